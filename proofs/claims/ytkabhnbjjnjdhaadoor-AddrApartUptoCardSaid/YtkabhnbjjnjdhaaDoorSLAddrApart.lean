/- AddrApart, plain: unlike addresses have unlike texts; a text that is read is written as one of the same address, in small letters. -/
import Derived.Test.YtkabhnbjjnjdhaaDoorSAdD
import Derived.Test.YtkabhnbjjnjdhaaDoorSQAddrApart
set_option linter.unusedSimpArgs false
set_option linter.unusedVariables false
namespace Go.Proofs.YtkabhnbjjnjdhaaDoor.Q
open Go.RowKit Go.Proofs.YtkabhnbjjnjdhaaDoorW.PrintWords Go.Proofs.YtkabhnbjjnjdhaaDoorW.PrintLast Go.Proofs.YtkabhnbjjnjdhaaDoorW.PrintMore Go.Proofs.YtkabhnbjjnjdhaaDoor.Ad
theorem apart_loop (s : List UInt8) (hs : s.length ≤ 1000) (hok : ∀ c ∈ s, c = 58 ∨ okC c) (x0 x1 x2 x3 x4 x5 x6 x7 : Int) : ∀ (d i : Nat), i + d = s.length → bastionlaw07_AddrApart.l0 (d + 1) (B s) 0 (i : Int) x0 x1 x2 x3 x4 x5 x6 x7 x0 x1 x2 x3 x4 x5 x6 x7 = some true
  | 0, i, h => by
    unfold bastionlaw07_AddrApart.l0
    rw [B_size, if_neg (by omega), if_pos rfl]
    simp
  | d + 1, i, h => by
    have hi : i < s.length := by omega
    have hb : bt (B s) (i : Int) = ((s[i]'hi).toNat : Int) := by
      rw [B_bt, Int.toNat_natCast, List.getD_eq_getElem?_getD, List.getElem?_eq_getElem hi]; rfl
    have hc := hok _ (List.getElem_mem hi)
    have hr : ¬ (65 ≤ (s[i]'hi).toNat ∧ (s[i]'hi).toNat ≤ 90) ∧ (s[i]'hi).toNat ≠ 46 := by
      rcases hc with hc | hc
      · rw [hc]; decide
      · unfold okC at hc; omega
    have ih := apart_loop s hs hok x0 x1 x2 x3 x4 x5 x6 x7 d (i + 1) (by omega)
    have hw : wrap64 ((i : Int) + 1) = ((i + 1 : Nat) : Int) := by rw [wrap64_of (by omega) (by omega)]; omega
    unfold bastionlaw07_AddrApart.l0
    rw [B_size, if_pos (by omega), if_pos (by omega), hb, hw]
    by_cases h65 : ((s[i]'hi).toNat : Int) ≥ 65
    · rw [if_pos h65, if_neg (by omega), if_neg (by omega)]
      exact ih
    · rw [if_neg h65, if_neg (by omega)]
      exact ih
theorem apart_eq (a0 a1 a2 a3 a4 a5 a6 a7 b0 b1 b2 b3 b4 b5 b6 b7 : Nat) (ha : ∀ q ∈ [a0, a1, a2, a3, a4, a5, a6, a7], q < 65536) (hb : ∀ q ∈ [b0, b1, b2, b3, b4, b5, b6, b7], q < 65536) : (((B (txt6 [a0, a1, a2, a3, a4, a5, a6, a7])).toList == (B (txt6 [b0, b1, b2, b3, b4, b5, b6, b7])).toList) != ((a0 : Int) == (b0 : Int) && ((a1 : Int) == (b1 : Int) && ((a2 : Int) == (b2 : Int) && ((a3 : Int) == (b3 : Int) && ((a4 : Int) == (b4 : Int) && ((a5 : Int) == (b5 : Int) && ((a6 : Int) == (b6 : Int) && ((a7 : Int) == (b7 : Int)))))))))) = false := by
  rw [bne_eq_false_iff_eq, B_toList, B_toList]
  by_cases e : ([a0, a1, a2, a3, a4, a5, a6, a7] : List Nat) = [b0, b1, b2, b3, b4, b5, b6, b7]
  · rw [e, beq_self_eq_true]
    simp only [List.cons.injEq, and_true] at e
    simp [e]
  · have hne : txt6 [a0, a1, a2, a3, a4, a5, a6, a7] ≠ txt6 [b0, b1, b2, b3, b4, b5, b6, b7] := fun h => e (by
      have h1 := v6_back (a := [a0, a1, a2, a3, a4, a5, a6, a7]) rfl ha
      have h2 := v6_back (a := [b0, b1, b2, b3, b4, b5, b6, b7]) rfl hb
      rw [h, h2] at h1
      exact (Option.some.inj h1).symm)
    rw [beq_eq_false_iff_ne.2 hne]
    symm
    rw [Bool.eq_false_iff]
    intro h
    apply e
    simp only [Bool.and_eq_true, beq_iff_eq] at h
    simp only [List.cons.injEq, and_true]
    omega
theorem addrApart_pure (x y : Arr) (a2 : ByteArray) (hx : inArr x) (hy : inArr y) (h : mArr x + mArr y + a2.size ≤ 1048576) : ∃ k, bastionlaw07_AddrApart.f k x.f0 x.f1 x.f2 x.f3 x.f4 x.f5 x.f6 x.f7 y.f0 y.f1 y.f2 y.f3 y.f4 y.f5 y.f6 y.f7 a2 = some true := by
  refine ⟨100, ?_⟩
  obtain ⟨p0, p1, p2, p3, p4, p5, p6, p7, rfl, ha⟩ := arr_nat hx
  obtain ⟨q0, q1, q2, q3, q4, q5, q6, q7, rfl, hb⟩ := arr_nat hy
  obtain ⟨l, rfl⟩ := B_ex a2
  rw [B_size] at h
  unfold bastionlaw07_AddrApart.f
  simp only
  rw [lives_f 95, Option.bind_some, if_pos rfl, txt6_f _ _ _ _ _ _ _ _ ha, Option.bind_some, txt6_f _ _ _ _ _ _ _ _ hb, Option.bind_some, apart_eq _ _ _ _ _ _ _ _ _ _ _ _ _ _ _ _ ha hb, if_neg (by decide)]
  cases hv : v6L l with
  | none =>
    rw [v6_fn (by omega) hv, Option.bind_some, if_neg (by decide)]
    rfl
  | some c =>
    obtain ⟨hl, hc⟩ := v6_good hv
    obtain ⟨m0, m1, m2, m3, m4, m5, m6, m7, rfl⟩ : ∃ m0 m1 m2 m3 m4 m5 m6 m7, c = [m0, m1, m2, m3, m4, m5, m6, m7] := by
      match c, hl with
      | [a, b, c, d, e, f, g, i], _ => exact ⟨a, b, c, d, e, f, g, i, rfl⟩
    have lt := txt6_len (a := [m0, m1, m2, m3, m4, m5, m6, m7]) rfl
    rw [v6_f (by omega) hv, Option.bind_some, if_pos (by rfl), txt6_f _ _ _ _ _ _ _ _ hc, Option.bind_some, v6_f (by omega) (v6_back (a := [m0, m1, m2, m3, m4, m5, m6, m7]) rfl hc), Option.bind_some]
    have := apart_loop (txt6 [m0, m1, m2, m3, m4, m5, m6, m7]) (by omega) (fun c hc => txt6_mem hc) (m0 : Int) (m1 : Int) (m2 : Int) (m3 : Int) (m4 : Int) (m5 : Int) (m6 : Int) (m7 : Int) (txt6 [m0, m1, m2, m3, m4, m5, m6, m7]).length 0 (by omega)
    exact at_more (fun k => (bastionlaw07_AddrApart.mono_l k) _ _ _ _ _ _ _ _ _ _ _ _ _ _ _ _ _ _ _) (by omega) this
end Go.Proofs.YtkabhnbjjnjdhaaDoor.Q
