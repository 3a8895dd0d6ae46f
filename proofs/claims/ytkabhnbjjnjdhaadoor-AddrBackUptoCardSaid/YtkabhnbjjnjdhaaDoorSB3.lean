/- AddrDot, plain: a full stop behind a text is no matter. -/
/- AddrBack, plain: what is written is read as what it was. -/
import Derived.Test.YtkabhnbjjnjdhaaDoorSAdC
import Derived.Test.YtkabhnbjjnjdhaaDoorSQAddrDot
import Derived.Test.YtkabhnbjjnjdhaaDoorSAdD
import Derived.Test.YtkabhnbjjnjdhaaDoorSQAddrBack
section
set_option linter.unusedSimpArgs false
set_option linter.unusedVariables false
namespace Go.Proofs.YtkabhnbjjnjdhaaDoor.Q
open Go.RowKit Go.Proofs.YtkabhnbjjnjdhaaDoorW.PrintWords Go.Proofs.YtkabhnbjjnjdhaaDoorW.PrintLast Go.Proofs.YtkabhnbjjnjdhaaDoorW.PrintMore Go.Proofs.YtkabhnbjjnjdhaaDoor.Ad
theorem addrDot_pure (a0 : ByteArray) (h : a0.size ≤ 1048576) : ∃ k, bastionlaw07_AddrDot.f k a0 = some true := by
  refine ⟨5, ?_⟩
  unfold bastionlaw07_AddrDot.f
  rw [lives_f 0, Option.bind_some, if_pos rfl]
  obtain ⟨l, rfl⟩ := B_ex a0
  rw [B_size] at h
  have htl := B_toList l
  rw [htl]
  by_cases hl : l = []
  · rw [if_pos hl]
    simp only [bastionlaw07_AddrDot.j0, if_true]
  · rw [if_neg hl]
    have hpos : 0 < l.length := List.length_pos_iff.2 hl
    rw [B_size, wrap64_of (by omega) (by omega), if_pos (by omega), if_pos (by omega)]
    have hb : bt (B l) ((l.length : Int) - 1) = ((l.getLast hl).toNat : Int) := by
      rw [B_bt, show ((l.length : Int) - 1).toNat = l.length - 1 from by omega, List.getD_eq_getElem?_getD, ← List.getLast?_eq_getElem?, List.getLast?_eq_some_getLast hl]
      rfl
    rw [hb]
    by_cases h46 : l.getLast hl = 46
    · rw [h46, show (((46 : UInt8).toNat : Int) == 46) = true from rfl]
      simp only [bastionlaw07_AddrDot.j0, if_true]
    · have hne : (((l.getLast hl).toNat : Int) == 46) = false := by
        rw [beq_eq_false_iff_ne]
        intro e
        exact h46 (UInt8.toNat_inj.1 (by show (l.getLast hl).toNat = 46; omega))
      rw [hne]
      have hB : B l ++ (⟨#[46]⟩ : ByteArray) = B (l ++ [46]) := B_append l [46]
      have hs1 : (B l).size ≤ 1000000000 := by rw [B_size]; omega
      have hs2 : (B (l ++ [46])).size ≤ 1000000000 := by rw [B_size, List.length_append]; simp; omega
      have e1 := v4_f hs1
      have e2 := v4_f hs2
      have e3 := ends_f hs1
      have e4 := ends_f hs2
      rw [B_data] at e1 e2 e3 e4
      rw [v4_dot hl h46] at e2
      rw [ends_dot hl h46] at e4
      have e5 : addr_V6.f (B (l ++ [46])) = some (0, 0, 0, 0, 0, 0, 0, 0, 17) := by
        unfold addr_V6.f
        rw [if_pos hs2, B_data, v6_dot]
        rfl
      simp only [bastionlaw07_AddrDot.j0, hB, e1, e2, e3, e4, e5, Option.bind_some, B_size]
      simp
      omega
end Go.Proofs.YtkabhnbjjnjdhaaDoor.Q
end
section
set_option linter.unusedSimpArgs false
set_option linter.unusedVariables false
namespace Go.Proofs.YtkabhnbjjnjdhaaDoor.Q
open Go.RowKit Go.Proofs.YtkabhnbjjnjdhaaDoorW.PrintWords Go.Proofs.YtkabhnbjjnjdhaaDoorW.PrintLast Go.Proofs.YtkabhnbjjnjdhaaDoorW.PrintMore Go.Proofs.YtkabhnbjjnjdhaaDoor.Ad
theorem addrBack_pure (a0 : Int) (x : Arr) (w0 : (Lit.int .u32 a0).wf = true) (hx : inArr x) (h : mArr x ≤ 1048576) : ∃ k, bastionlaw07_AddrBack.f k a0 x.f0 x.f1 x.f2 x.f3 x.f4 x.f5 x.f6 x.f7 = some true := by
  refine ⟨10, ?_⟩
  obtain ⟨n, rfl, hn⟩ := wf32 w0
  obtain ⟨n0, n1, n2, n3, n4, n5, n6, n7, rfl, hq⟩ := arr_nat hx
  have l4 := txt4_len n
  have l6 := txt6_len (a := [n0, n1, n2, n3, n4, n5, n6, n7]) rfl
  have e1 := v4_f (s := B (txt4 n)) (by rw [B_size]; omega)
  rw [B_data, v4_back hn] at e1
  have e2 := v6_f (by omega) (v6_back (a := [n0, n1, n2, n3, n4, n5, n6, n7]) rfl hq)
  have e3 := ends_f (s := B (txt4 n)) (by rw [B_size]; omega)
  rw [B_data, ends_back] at e3
  unfold bastionlaw07_AddrBack.f
  simp only
  rw [lives_f 5, Option.bind_some, if_pos rfl, textV4_f n hn 5, Option.bind_some, txt6_f _ _ _ _ _ _ _ _ hq, Option.bind_some, e1, Option.bind_some, e2, Option.bind_some]
  rw [if_pos (by rfl), if_pos (by rfl), if_pos (by simp), if_pos (by rfl), e3, Option.bind_some, if_pos rfl, B_size, if_pos (by omega), B_size, decide_eq_true (by omega)]
end Go.Proofs.YtkabhnbjjnjdhaaDoor.Q
end
