/- AddrForms, plain: an address of version 4 is the same in all its forms. -/
import Derived.Test.YtkabhnbjjnjdhaaDoorSAdD
import Derived.Test.YtkabhnbjjnjdhaaDoorSQAddrForms
set_option linter.unusedSimpArgs false
set_option linter.unusedVariables false
namespace Go.Proofs.YtkabhnbjjnjdhaaDoor.Q
open Go.RowKit Go.Proofs.YtkabhnbjjnjdhaaDoorW.PrintWords Go.Proofs.YtkabhnbjjnjdhaaDoorW.PrintLast Go.Proofs.YtkabhnbjjnjdhaaDoorW.PrintMore Go.Proofs.YtkabhnbjjnjdhaaDoor.Ad
theorem wrap16n (n : Nat) : IntKind.u16.wrap (n : Int) = ((n % 65536 : Nat) : Int) := by
  have : IntKind.u16.wrap (n : Int) = (n : Int) % 65536 := by simp [IntKind.wrap, IntKind.bits, IntKind.signed]
  rw [this]; omega
theorem addrForms_pure (a0 : Int) (a1 : ByteArray) (w0 : (Lit.int .u32 a0).wf = true) (h : a1.size ≤ 1048576) : ∃ k, bastionlaw07_AddrForms.f k a0 a1 = some true := by
  refine ⟨10, ?_⟩
  obtain ⟨n, rfl, hn⟩ := wf32 w0
  have hl := txt4_len n
  have hB1 : B (txt4 n) ++ (⟨#[46]⟩ : ByteArray) = B (txt4 n ++ [46]) := B_append _ [46]
  have hB2 : (⟨#[58, 58]⟩ : ByteArray) ++ B (txt4 n) = B (58 :: 58 :: txt4 n) := B_append [58, 58] _
  have e1 := v4_f (s := B (txt4 n ++ [46])) (by rw [B_size]; simp; omega)
  rw [B_data, v4_back_dot hn] at e1
  have e2 : addr_V6.f (B (58 :: 58 :: txt4 n)) = some (0, 0, 0, 0, 0, 0, ((n / 65536 : Nat) : Int), ((n % 65536 : Nat) : Int), 0) := by
    unfold addr_V6.f
    rw [if_pos (by rw [B_size]; simp; omega), B_data, v6_of4 hn]
    rfl
  have e3 := v4_f (s := a1) (by omega)
  have e4 := ends_f (s := a1) (by omega)
  have t1 := textV4_f n hn 5
  unfold bastionlaw07_AddrForms.f
  rw [lives_f 5, Option.bind_some, if_pos rfl, t1, Option.bind_some, B_size, if_pos (by omega), hB1, e1, Option.bind_some, if_pos (by omega), hB2, e2, Option.bind_some]
  rw [if_pos (by rfl), if_pos (by rfl), if_pos (by rfl)]
  have hw1 : IntKind.u16.wrap ((n : Int) / 65536) = ((n / 65536 : Nat) : Int) := by
    rw [show (n : Int) / 65536 = ((n / 65536 : Nat) : Int) from by omega, wrap16n, Nat.mod_eq_of_lt (by omega)]
  have hw2 : IntKind.u16.wrap (n : Int) = ((n % 65536 : Nat) : Int) := wrap16n n
  have hb : (!((0 : Int) == 0) || (!((0 : Int) == 0) || (!((0 : Int) == 0) || (!((0 : Int) == 0) || (!((0 : Int) == 0) || (!((0 : Int) == 0) || (!(((n / 65536 : Nat) : Int) == (IntKind.u16.wrap ((n : Int) / 65536))) || (!(((n % 65536 : Nat) : Int) == (IntKind.u16.wrap (n : Int)))))))))))  = false := by
    rw [hw1, hw2]; simp
  simp only
  rw [hb]
  simp only [bastionlaw07_AddrForms.j0, e3, Option.bind_some]
  rw [if_neg (by decide)]
  cases hv : v4L a1.data.toList with
  | none =>
    rw [if_neg (by show ¬ ((17 : Int) = 0); decide)]
    rfl
  | some m =>
    have hm := v4_lt hv
    have e5 := v4_f (s := B (txt4 m)) (by rw [B_size]; have := txt4_len m; omega)
    rw [B_data, v4_back hm] at e5
    rw [v4_ends hv] at e4
    rw [if_pos (by rfl), show v4n (some m) = (m : Int) from rfl, textV4_f m hm 4, Option.bind_some, e5, Option.bind_some, e4, Option.bind_some, if_pos rfl, if_pos (by rfl)]
    rfl
end Go.Proofs.YtkabhnbjjnjdhaaDoor.Q
