/- AddrWrites, plain: what the program writes is what the document writes. -/
import Derived.Test.YtkabhnbjjnjdhaaDoorSAdD
import Derived.Test.YtkabhnbjjnjdhaaDoorSQAddrWrites
set_option linter.unusedSimpArgs false
set_option linter.unusedVariables false
namespace Go.Proofs.YtkabhnbjjnjdhaaDoor.Q
open Go.RowKit Go.Proofs.YtkabhnbjjnjdhaaDoorW.PrintWords Go.Proofs.YtkabhnbjjnjdhaaDoorW.PrintLast Go.Proofs.YtkabhnbjjnjdhaaDoorW.PrintMore Go.Proofs.YtkabhnbjjnjdhaaDoor.Ad
theorem u64_nat {n : Nat} (h : n < 4294967296) : IntKind.u64.wrap (n : Int) = (n : Int) := by rw [IntKind.wrap_u64]; omega
theorem tdiv_nat (n b : Nat) : Int.tdiv (n : Int) (b : Int) = ((n / b : Nat) : Int) := by rw [Int.tdiv_eq_ediv_of_nonneg (by omega)]; rfl
theorem tmod_nat (n b : Nat) : Int.tmod (n : Int) (b : Int) = ((n % b : Nat) : Int) := by rw [Int.tmod_eq_emod_of_nonneg (by omega)]; rfl
theorem refTextV4_f (n : Nat) (hn : n < 4294967296) (k : Nat) : bastionref07_TextV4.f (k + 5) (n : Int) = some (B (txt4 n)) := by
  have h0 := text10 (n / 16777216) (by omega) k
  have h1 := text10 (n / 65536 % 256) (by omega) k
  have h2 := text10 (n / 256 % 256) (by omega) k
  have h3 := text10 (n % 256) (by omega) k
  have e0 : Int.tdiv (n : Int) 16777216 = ((n / 16777216 : Nat) : Int) := tdiv_nat n 16777216
  have e1 : Int.tdiv (n : Int) 65536 = ((n / 65536 : Nat) : Int) := tdiv_nat n 65536
  have e2 : Int.tdiv (n : Int) 256 = ((n / 256 : Nat) : Int) := tdiv_nat n 256
  have m1 : Int.tmod ((n / 65536 : Nat) : Int) 256 = ((n / 65536 % 256 : Nat) : Int) := tmod_nat _ 256
  have m2 : Int.tmod ((n / 256 : Nat) : Int) 256 = ((n / 256 % 256 : Nat) : Int) := tmod_nat _ 256
  have m3 : Int.tmod (n : Int) 256 = ((n % 256 : Nat) : Int) := tmod_nat _ 256
  have l0 := (dec3_of (n := n / 16777216) (by omega)).2.2.2.2
  have l1 := (dec3_of (n := n / 65536 % 256) (by omega)).2.2.2.2
  have l2 := (dec3_of (n := n / 256 % 256) (by omega)).2.2.2.2
  have l3 := (dec3_of (n := n % 256) (by omega)).2.2.2.2
  have e : txt4 n = dec3 (n / 16777216) ++ [46] ++ dec3 (n / 65536 % 256) ++ [46] ++ dec3 (n / 256 % 256) ++ [46] ++ dec3 (n % 256) := by
    rw [txt4_eq, show n / 16777216 % 256 = n / 16777216 from by omega]
    simp only [List.append_assoc]
  have u1 := u64_nat (n := n / 16777216) (by omega)
  have u2 := u64_nat (n := n / 65536) (by omega)
  have u3 := u64_nat (n := n / 256) (by omega)
  have hd : (⟨#[46]⟩ : ByteArray) = B [46] := rfl
  unfold bastionref07_TextV4.f
  rw [u64_nat hn, e0, u1, h0, Option.bind_some, e1, u2, m1, h1, Option.bind_some, e2, u3, m2, h2, Option.bind_some, m3, h3, Option.bind_some, e, hd]
  simp only [B_append, B_size, List.length_append, List.length_cons, List.length_nil]
  rw [if_pos (by omega), if_pos (by omega), if_pos (by omega), if_pos (by omega), if_pos (by omega), if_pos (by omega)]
theorem refTextV6_f (k : Nat) (n0 n1 n2 n3 n4 n5 n6 n7 : Nat) (h : ∀ q ∈ [n0, n1, n2, n3, n4, n5, n6, n7], q < 65536) : bastionref07_TextV6.f k (n0 : Int) (n1 : Int) (n2 : Int) (n3 : Int) (n4 : Int) (n5 : Int) (n6 : Int) (n7 : Int) = some (B (txt6 [n0, n1, n2, n3, n4, n5, n6, n7])) := (txt6_f n0 n1 n2 n3 n4 n5 n6 n7 h : addr_TextV6.f _ _ _ _ _ _ _ _ = _)
theorem addrWrites_pure (a0 : Int) (x : Arr) (h0 : (Lit.int .u32 a0).wf = true) (hx : inArr x) (h : mArr x ≤ 1048576) : ∃ k, bastionlaw07_AddrWrites.f k a0 x.f0 x.f1 x.f2 x.f3 x.f4 x.f5 x.f6 x.f7 = some true := by
  refine ⟨100, ?_⟩
  obtain ⟨n, rfl, hn⟩ := wf32 h0
  obtain ⟨p0, p1, p2, p3, p4, p5, p6, p7, rfl, ha⟩ := arr_nat hx
  unfold bastionlaw07_AddrWrites.f
  simp only
  rw [lives_f 95, Option.bind_some, if_pos rfl, textV4_f n hn 95, Option.bind_some, refTextV4_f n hn 95, Option.bind_some, if_pos rfl, txt6_f _ _ _ _ _ _ _ _ ha, Option.bind_some, refTextV6_f _ _ _ _ _ _ _ _ _ ha, Option.bind_some]
  simp
end Go.Proofs.YtkabhnbjjnjdhaaDoor.Q
