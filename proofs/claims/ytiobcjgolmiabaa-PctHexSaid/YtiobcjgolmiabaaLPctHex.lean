/- The plain law of PctHex: every byte is what its two digits say. -/
import Derived.Test.YtiobcjgolmiabaaPctT
import Derived.Test.YtiobcjgolmiabaaPctLives
import Derived.Test.YtiobcjgolmiabaaQbastionlaw01PctHexA
namespace Go.Proofs.Ytiobcjgolmiabaa.Q
open Go.RowKit Go.Proofs.YtiobcjgolmiabaaW.PrintWords Go.Proofs.YtiobcjgolmiabaaW.PrintLast Go.Proofs.YtiobcjgolmiabaaW.PrintMore Go.Proofs.Ytiobcjgolmiabaa.P1
def hexL (n : Nat) : UInt8 := if n < 10 then (48 + n).toUInt8 else (87 + n).toUInt8
theorem up_tab : ∀ n : Fin 16, Utf8.encode (bt (⟨#[48, 49, 50, 51, 52, 53, 54, 55, 56, 57, 65, 66, 67, 68, 69, 70]⟩ : ByteArray) (n.val : Int)) = B [hexU n.val] := by decide +kernel
theorem lo_tab : ∀ n : Fin 16, Utf8.encode (bt (⟨#[48, 49, 50, 51, 52, 53, 54, 55, 56, 57, 97, 98, 99, 100, 101, 102]⟩ : ByteArray) (n.val : Int)) = B [hexL n.val] := by decide +kernel
theorem hexDL : ∀ n : Fin 16, dg (hexL n.val) = some n.val := by decide +kernel
theorem dec_two (h l : UInt8) (c : UInt8) (r : List UInt8) (hh : dg h = some (c.toNat / 16)) (hl : dg l = some (c.toNat % 16)) : decL (37 :: h :: l :: r) = c :: decL r := by
  have h3 := byte_of_digits ⟨c.toNat, c.toNat_lt⟩
  simp only [] at h3
  rw [decL_yes r hh hl, h3]
  simp
theorem PctHex_pure (a : Int) (t : ByteArray) (ha : (Lit.int .u8 a).wf = true) (ht : t.size ≤ 140737488351232) : ∃ k, bastionlaw01_PctHex.f k a t = some true := by
  obtain ⟨t, rfl⟩ := B_ex t
  rw [B_size] at ht
  replace ha := u8_bounds ha
  obtain ⟨c, rfl⟩ : ∃ c : UInt8, a = (c.toNat : Int) := ⟨a.toNat.toUInt8, by rw [u8_of _ (by omega)]; omega⟩
  have hc := c.toNat_lt
  have e1 : (Int.tdiv (c.toNat : Int) 16) % 256 = ((c.toNat / 16 : Nat) : Int) := by
    rw [Int.tdiv_eq_ediv_of_nonneg (by omega)]; omega
  have e2 : Int.tmod (c.toNat : Int) 16 = ((c.toNat % 16 : Nat) : Int) := by
    rw [Int.tmod_eq_emod_of_nonneg (by omega)]; omega
  have u1 := up_tab ⟨c.toNat / 16, by omega⟩
  have u2 := up_tab ⟨c.toNat % 16, by omega⟩
  have l1 := lo_tab ⟨c.toNat / 16, by omega⟩
  have l2 := lo_tab ⟨c.toNat % 16, by omega⟩
  have d1 := hexD ⟨c.toNat / 16, by omega⟩
  have d2 := hexD ⟨c.toNat % 16, by omega⟩
  have d3 := hexDL ⟨c.toNat / 16, by omega⟩
  have d4 := hexDL ⟨c.toNat % 16, by omega⟩
  simp only [] at u1 u2 l1 l2 d1 d2 d3 d4
  have e0 : (⟨#[37]⟩ : ByteArray) = B [37] := rfl
  have es : strOfNums ([(c.toNat : Int)]) = B [c] := strOf_ns [c]
  refine Ev.rounds (g := fun k => bastionlaw01_PctHex.f k c.toNat (B t)) ?_
  unfold bastionlaw01_PctHex.f
  rw [e1, e2, u1, u2, l1, l2, e0, es]
  simp only [B_append, List.cons_append, List.nil_append]
  have x1 := pct_Decode_ev [37, hexU (c.toNat / 16), hexL (c.toNat % 16)] (by simp)
  rw [dec_two _ _ c [] d1 d4, show decL [] = [] from rfl] at x1
  have x2 := pct_Decode_ev (37 :: hexL (c.toNat / 16) :: hexU (c.toNat % 16) :: t) (by simp; omega)
  rw [dec_two _ _ c t d3 d2] at x2
  have hd := decL_length _ t (Nat.le_refl _)
  refine lives_ev.bind (Ev.ite_pos rfl (Ev.ite_pos (by omega) (Ev.ite_pos (by omega) (Ev.ite_pos (by rw [B_size]; simp) (Ev.ite_pos (by omega) (Ev.ite_pos (by omega) (Ev.ite_pos (by rw [B_size, B_size]; simp) (Ev.ite_pos (by rw [B_size]; simp) (Ev.ite_pos (by rw [B_size, B_size]; simp) (x1.bind (Ev.ite_pos rfl (Ev.ite_pos (by rw [B_size, B_size]; simp; omega) (x2.bind ((Ev.const rfl).bind ((pct_Decode_ev t (by omega)).bind ?_)))))))))))))))
  rw [es, B_append]
  refine Ev.ite_pos (by rw [B_size, B_size]; simp; omega) ?_
  simpa using Ev.now true
end Go.Proofs.Ytiobcjgolmiabaa.Q
