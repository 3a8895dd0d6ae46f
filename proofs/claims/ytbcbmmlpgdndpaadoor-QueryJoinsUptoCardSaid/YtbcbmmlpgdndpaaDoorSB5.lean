/- What the functions of layer 2 answer, plain. -/
/- A drawn region in a round of a range over a function, for the printed steps. -/
/- Percent-encoding and decoding undo one another, on lists of bytes. -/
/- What is written in a form is read as it. -/
/- Functions of the given program as plain Lean functions, each with the proof that the machine answers as it does; laid by a program of mine over the kit print. -/
import Derived.Test.YtbcbmmlpgdndpaaDoorSUtfRef
import Derived.Test.YtbcbmmlpgdndpaaDoorSUDec
import Derived.Test.YtbcbmmlpgdndpaaDoorSUVal
import Derived.Test.YtbcbmmlpgdndpaaDoorSQutf1
import Derived.Test.YtbcbmmlpgdndpaaDoorSSeq
import Derived.Test.YtbcbmmlpgdndpaaDoorSPctC
import Derived.Test.YtbcbmmlpgdndpaaDoorSQuT
import Derived.Test.YtbcbmmlpgdndpaaDoorSB4
section
namespace Go.Proofs.YtbcbmmlpgdndpaaDoor.Q
open Go.RowKit Go.Proofs.YtbcbmmlpgdndpaaDoorW.PrintWords Go.Proofs.YtbcbmmlpgdndpaaDoorW.PrintLast Go.Proofs.YtbcbmmlpgdndpaaDoorW.PrintMore Go.Proofs.YtbcbmmlpgdndpaaDoor.P1
set_option linter.unusedSimpArgs false
set_option linter.unusedVariables false
theorem may_32 {x : Int} (h : mayR x) : inR32 x := by unfold mayR at h; unfold inR32; omega
theorem utf_Decode_f (l : List UInt8) (h : l.length ≤ 35184372088831) : utf_Decode.f (B l) = some (uDec l) := by
  unfold utf_Decode.f; rw [if_pos (by rw [B_size]; exact h), B_data]
theorem utf_Encode_f (l : List Int) (h : l.length ≤ 17592186044416) (hx : ∀ x ∈ l, inR32 x) : utf_Encode.f l = some (B (encRunes l)) := by
  unfold utf_Encode.f; rw [if_pos ⟨h, hx⟩]; rfl
theorem utf_Valid_f (l : List UInt8) (h : l.length ≤ 9223372036854775807) : utf_Valid.f (B l) = some (encRunes (uDec l) == l) := by
  unfold utf_Valid.f; rw [if_pos (by rw [B_size]; exact h), B_data, valid_iff]
theorem utf_Scalar_f (l : List UInt8) (h : l.length ≤ 17592186044416) : utf_Scalar.f (B l) = some (B (encRunes (uDec l))) := by
  have hd := uDec_length l.length l (Nat.le_refl _)
  unfold utf_Scalar.f
  rw [utf_Valid_f l (by omega)]
  simp only [Option.bind_some]
  by_cases e : encRunes (uDec l) = l
  · rw [if_pos (by rw [e]; simp), e]
  · rw [if_neg (by simpa using e), utf_Decode_f l (by omega)]
    simp only [Option.bind_some]
    rw [utf_Encode_f _ (by omega) (fun x hx => may_32 (uDec_may _ l (Nat.le_refl _) x hx))]
    rfl
theorem ref_Scalar_ev (l : List UInt8) (h : l.length ≤ 17592186044416) : Ev (fun k => bastionref02_Scalar.f k (B l)) (B (encRunes (uDec l))) := by
  have hd := uDec_length l.length l (Nat.le_refl _)
  unfold bastionref02_Scalar.f
  exact (ref_Decode_ev l (by omega)).bind ((ref_Encode_ev _ (by omega)).bind (Ev.now _))
end Go.Proofs.YtbcbmmlpgdndpaaDoor.Q
end
section
set_option linter.unusedVariables false
namespace Go.Proofs.YtbcbmmlpgdndpaaDoor.R
open Go.RowKit Go.Proofs.YtbcbmmlpgdndpaaDoorW.PrintLast
theorem startR_ {P : Program} {ops : Array Oper} {Q : Exit → Act → World → Prop} {S : World → Prop} {ds : List Nat} {id n m l0 : Nat} {a : Act} {w : World} (l : Array Bool) (hnd : ops.all (fun o => match o.op with | .defer _ => false | _ => true) = true) (hout : LetsOut Q → False)
    (hm : P.follows .mixedOrders = true) (hn : ops.size = n) (hl : Array.replicate n false = l) (hS : S w.drew)
    (h : S w.drew → wpAnyLast P .any ops Q S ds n l a w.drew) : (Code.region id ops true).wpIn (Fence.wide.inRound l0) m P Q a w := by
  subst hn
  subst hl
  exact wpIn_round_any hnd hout hm (fun W' e => by subst e; exact wpAny_of_last _ _ _ _ (h hS))
theorem setCell_blk {W : World} {b j : Nat} {cs : Array Value} {t : TypeId} {fr : Nat × Nat} (v : Value) (h : W.heap[b]? = some (.cells cs t fr)) : (W.setCell ⟨b, j, none⟩ v).heap[b]? = some (.cells (cs.setIfInBounds j v) t fr) := by
  obtain ⟨hlt, hk⟩ := Array.getElem?_eq_some_iff.1 h
  show (W.heap.modify b _)[b]? = _
  rw [Array.getElem?_eq_getElem (by rw [Array.size_modify]; exact hlt), Array.getElem_modify_self, hk]; simp
end Go.Proofs.YtbcbmmlpgdndpaaDoor.R
end
section
namespace Go.Proofs.YtbcbmmlpgdndpaaDoor.Q
open Go.RowKit Go.Proofs.YtbcbmmlpgdndpaaDoorW.PrintWords Go.Proofs.YtbcbmmlpgdndpaaDoorW.PrintLast Go.Proofs.YtbcbmmlpgdndpaaDoorW.PrintMore Go.Proofs.YtbcbmmlpgdndpaaDoor.P1
set_option linter.unusedSimpArgs false
set_option linter.unusedVariables false
theorem hexD : ∀ n : Fin 16, dg (hexU n.val) = some n.val := by decide +kernel
theorem byte_of_digits : ∀ b : Fin 256, (16 * (b.val / 16) + b.val % 16).toUInt8 = b.val.toUInt8 := by decide +kernel
/-- a byte that is encoded is decoded -/
theorem decL_enc (c : UInt8) (r : List UInt8) : decL (37 :: hexU (c.toNat / 16) :: hexU (c.toNat % 16) :: r) = c :: decL r := by
  have h1 := hexD ⟨c.toNat / 16, by have := c.toNat_lt; omega⟩
  have h2 := hexD ⟨c.toNat % 16, by omega⟩
  have h3 := byte_of_digits ⟨c.toNat, c.toNat_lt⟩
  simp only [] at h1 h2 h3
  rw [decL_yes r h1 h2, h3]
  simp
end Go.Proofs.YtbcbmmlpgdndpaaDoor.Q
end
section
namespace Go.Proofs.YtbcbmmlpgdndpaaDoor.Q
open Go.RowKit Go.Proofs.YtbcbmmlpgdndpaaDoorW.PrintWords Go.Proofs.YtbcbmmlpgdndpaaDoorW.PrintLast Go.Proofs.YtbcbmmlpgdndpaaDoorW.PrintMore Go.Proofs.YtbcbmmlpgdndpaaDoor.P1 Go.Proofs.YtbcbmmlpgdndpaaDoor.Qu
set_option linter.unusedSimpArgs false
theorem ub_dec (l : List UInt8) : decL (l.flatMap ub) = l := by
  induction l with
  | nil => rfl
  | cons c l ih =>
    rw [List.flatMap_cons]
    unfold ub encByte
    by_cases h : c = 32
    · subst h
      rw [if_pos rfl]
      show decL (32 :: l.flatMap ub) = _
      rw [decL_cons_ne (by decide), ih]
    · rw [if_neg h]
      by_cases hin : inB 8 (c.toNat : Int) = true
      · rw [if_pos hin]
        show decL (37 :: hexU (c.toNat / 16) :: hexU (c.toNat % 16) :: l.flatMap ub) = _
        rw [decL_enc, ih]
      · rw [if_neg hin]
        have hne : c ≠ 37 := by
          intro e; subst e
          exact hin (by decide +kernel)
        show decL (c :: l.flatMap ub) = _
        rw [decL_cons_ne hne, ih]
theorem qu_back (l : List UInt8) : decL (unq (quL l)) = l := by rw [unq_qu, ub_dec]
end Go.Proofs.YtbcbmmlpgdndpaaDoor.Q
end
section
namespace Go.Proofs.YtbcbmmlpgdndpaaDoor.Q
open Go.RowKit Go.Proofs.YtbcbmmlpgdndpaaDoorW.PrintWords Go.Proofs.YtbcbmmlpgdndpaaDoorW.PrintLast Go.Proofs.YtbcbmmlpgdndpaaDoorW.PrintMore
attribute [local go_sem] max2_int min2_int max_two min_two max_three min_three max_four min_four
set_option linter.unusedVariables false
set_option linter.unusedSimpArgs false
theorem eqA32 (d : Nat) (w : World) (x0 y0 : ByteArray) (x1 y1 : ByteArray) :
    (Op.equalIn (d + 2) 32 (.agg #[.string x0, .string x1]) (.agg #[.string y0, .string y1])).run Tryd.prog w = .ok (x0.toList == y0.toList && (x1.toList == y1.toList)) w := by
  refine eqA_of Tryd.underlying32 (by kernel_rfl) ?_
  refine eqf_cons (by rfl) (by go_simp; rfl) (by go_simp; rfl) (by go_simp) ?_
  exact eqf_last (by rfl) (by go_simp; rfl) (by go_simp; rfl) (by go_simp)
end Go.Proofs.YtbcbmmlpgdndpaaDoor.Q
end
