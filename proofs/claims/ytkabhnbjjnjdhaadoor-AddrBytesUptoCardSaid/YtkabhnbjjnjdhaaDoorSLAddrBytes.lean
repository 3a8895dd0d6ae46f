/- AddrBytes, plain: an address is the number of its four bytes, in every base. -/
import Derived.Test.YtkabhnbjjnjdhaaDoorSB4
import Derived.Test.YtkabhnbjjnjdhaaDoorSQAddrBytes
set_option linter.unusedSimpArgs false
set_option linter.unusedVariables false
namespace Go.Proofs.YtkabhnbjjnjdhaaDoor.Q
open Go.RowKit Go.Proofs.YtkabhnbjjnjdhaaDoorW.PrintWords Go.Proofs.YtkabhnbjjnjdhaaDoorW.PrintLast Go.Proofs.YtkabhnbjjnjdhaaDoorW.PrintMore Go.Proofs.YtkabhnbjjnjdhaaDoor.Ad
def hxL (n : Nat) : List UInt8 := match bastionlaw07_AddrBytes_1.f (n : Int) with | some s => s.data.toList | none => []
def ocL (n : Nat) : List UInt8 := match bastionlaw07_AddrBytes_2.f (n : Int) with | some s => s.data.toList | none => []
theorem hx_all : ∀ n : Fin 256, (bastionlaw07_AddrBytes_1.f (n.val : Int)).isSome = true ∧ numL (hxL n.val) = some n.val ∧ 46 ∉ hxL n.val ∧ hxL n.val ≠ [] ∧ (hxL n.val).length ≤ 4 := by decide +kernel
theorem oc_all : ∀ n : Fin 256, (bastionlaw07_AddrBytes_2.f (n.val : Int)).isSome = true ∧ numL (ocL n.val) = some n.val ∧ 46 ∉ ocL n.val ∧ ocL n.val ≠ [] ∧ (ocL n.val).length ≤ 4 := by decide +kernel
theorem hx_of {n : Nat} (h : n < 256) : bastionlaw07_AddrBytes_1.f (n : Int) = some (B (hxL n)) ∧ numL (hxL n) = some n ∧ 46 ∉ hxL n ∧ hxL n ≠ [] ∧ (hxL n).length ≤ 4 := by
  obtain ⟨h1, h2⟩ := hx_all ⟨n, h⟩
  refine ⟨?_, h2⟩
  unfold hxL
  cases e : bastionlaw07_AddrBytes_1.f (n : Int) with
  | none => simp only at h1; rw [e] at h1; cases h1
  | some s => rfl
theorem oc_of {n : Nat} (h : n < 256) : bastionlaw07_AddrBytes_2.f (n : Int) = some (B (ocL n)) ∧ numL (ocL n) = some n ∧ 46 ∉ ocL n ∧ ocL n ≠ [] ∧ (ocL n).length ≤ 4 := by
  obtain ⟨h1, h2⟩ := oc_all ⟨n, h⟩
  refine ⟨?_, h2⟩
  unfold ocL
  cases e : bastionlaw07_AddrBytes_2.f (n : Int) with
  | none => simp only at h1; rw [e] at h1; cases h1
  | some s => rfl
theorem v4_of {p q r s : List UInt8} {a b c d : Nat} (hp : numL p = some a) (hq : numL q = some b) (hr : numL r = some c) (hs : numL s = some d) (np : 46 ∉ p) (nq : 46 ∉ q) (nr : 46 ∉ r) (ns : 46 ∉ s) (hne : s ≠ []) (ha : a < 256) (hb : b < 256) (hc : c < 256) (hd : d < 256) : v4L (p ++ [46] ++ q ++ [46] ++ r ++ [46] ++ s) = some (a * 16777216 + b * 65536 + c * 256 + d) := by
  have e : p ++ [46] ++ q ++ [46] ++ r ++ [46] ++ s = Lib.join [p, q, r, s] [46] := by
    rw [join_two, join_two, join_two, Lib.join_one]
    simp only [List.append_assoc]
  have hpt : parts 46 (Lib.join [p, q, r, s] [46]) = [p, q, r, s] := parts_join (by simp) (fun x hx => by
    simp only [List.mem_cons, List.not_mem_nil, or_false] at hx
    rcases hx with rfl | rfl | rfl | rfl <;> assumption)
  have hpd : partsD (Lib.join [p, q, r, s] [46]) = [p, q, r, s] := by
    unfold partsD
    rw [hpt]
    exact cutLast_snoc (ps := [p, q, r]) hne
  unfold v4L
  rw [e, hpd, show ([p, q, r, s] : List (List UInt8)).length = 4 from rfl, if_pos (by decide)]
  unfold v4F
  simp only [hp, List.isEmpty_cons]
  rw [if_neg (by decide), if_pos (by omega)]
  unfold v4F
  simp only [hq, List.isEmpty_cons]
  rw [if_neg (by decide), if_pos (by omega)]
  unfold v4F
  simp only [hr, List.isEmpty_cons]
  rw [if_neg (by decide), if_pos (by omega)]
  unfold v4F
  simp only [hs, List.isEmpty_nil, if_true]
  rw [if_pos (by omega)]
  congr 1
  omega
theorem or_add {x y i : Nat} (hx : x % 2 ^ i = 0) (hy : y < 2 ^ i) (hi : i ≤ 24) (h : x < 4294967296) : Go.bits .or .u32 (x : Int) (y : Int) = ((x + y : Nat) : Int) := by
  obtain ⟨z, rfl⟩ : ∃ z, x = 2 ^ i * z := ⟨x / 2 ^ i, by have := Nat.div_add_mod x (2 ^ i); omega⟩
  have hy2 : y < 4294967296 := Nat.lt_of_lt_of_le hy (Nat.le_trans (Nat.pow_le_pow_right (by decide) (show i ≤ 32 by omega)) (by decide))
  have e : 2 ^ i * z ||| y = 2 ^ i * z + y := (Nat.two_pow_add_eq_or_of_lt hy z).symm
  have hlt : 2 ^ i * z ||| y < 4294967296 := Nat.or_lt_two_pow (n := 32) h hy2
  rw [← e]
  generalize 2 ^ i * z = x at *
  unfold Go.bits
  have hb : ∀ n : Nat, n < 4294967296 → (BitVec.ofInt IntKind.u32.bits (n : Int)).toNat = n := fun n hn => by
    rw [BitVec.toNat_ofInt]
    show ((n : Int) % ((2 ^ 32 : Nat) : Int)).toNat = n
    omega
  simp only [BitVec.toNat_or, hb x h, hb y hy2]
  rw [IntKind.wrap_u32]
  omega
theorem wf8 {a : Int} (h : (Lit.int .u8 a).wf = true) : ∃ n : Nat, a = n ∧ n < 256 := by
  have h1 : (decide (IntKind.u8.min ≤ a) && decide (a ≤ IntKind.u8.max)) = true := h
  rw [show IntKind.u8.min = 0 from rfl, show IntKind.u8.max = 255 from rfl, Bool.and_eq_true, decide_eq_true_eq, decide_eq_true_eq] at h1
  exact ⟨a.toNat, by omega, by omega⟩
theorem addrBytes_pure (a0 a1 a2 a3 : Int) (w0 : (Lit.int .u8 a0).wf = true) (w1 : (Lit.int .u8 a1).wf = true) (w2 : (Lit.int .u8 a2).wf = true) (w3 : (Lit.int .u8 a3).wf = true) (h : 0 ≤ 1048576) : ∃ k, bastionlaw07_AddrBytes.f k a0 a1 a2 a3 = some true := by
  refine ⟨100, ?_⟩
  obtain ⟨a, rfl, ha⟩ := wf8 w0
  obtain ⟨b, rfl, hb⟩ := wf8 w1
  obtain ⟨c, rfl, hc⟩ := wf8 w2
  obtain ⟨d, rfl, hd⟩ := wf8 w3
  obtain ⟨a1, a2, a3, a4, a5⟩ := hx_of ha
  obtain ⟨b1, b2, b3, b4, b5⟩ := oc_of hb
  obtain ⟨c1, c2, c3, c4, c5⟩ := hx_of hc
  obtain ⟨d1, d2, d3, d4, d5⟩ := oc_of hd
  obtain ⟨e1, e2, e3, e4, e5⟩ := hx_of hd
  have hv1 := v4_of a2 b2 c2 d2 a3 b3 c3 d3 d4 ha hb hc hd
  have hv2 := v4_of a2 b2 c2 e2 a3 b3 c3 e3 e4 ha hb hc hd
  have hn : Go.bits .or .u32 (Go.bits .or .u32 (Go.bits .or .u32 ((((a : Int) % 4294967296) * 16777216) % 4294967296) ((((b : Int) % 4294967296) * 65536) % 4294967296)) ((((c : Int) % 4294967296) * 256) % 4294967296)) ((d : Int) % 4294967296) = ((a * 16777216 + b * 65536 + c * 256 + d : Nat) : Int) := by
    rw [show (((a : Int) % 4294967296) * 16777216) % 4294967296 = ((a * 16777216 : Nat) : Int) from by omega, show (((b : Int) % 4294967296) * 65536) % 4294967296 = ((b * 65536 : Nat) : Int) from by omega, show (((c : Int) % 4294967296) * 256) % 4294967296 = ((c * 256 : Nat) : Int) from by omega, show (d : Int) % 4294967296 = (d : Int) from by omega]
    rw [or_add (i := 24) (by omega) (by omega) (by omega) (by omega), or_add (i := 16) (by omega) (by omega) (by omega) (by omega), or_add (i := 8) (by omega) (by omega) (by omega) (by omega)]
  have hdt : (⟨#[46]⟩ : ByteArray) = B [46] := rfl
  have s1 := v4_f (s := B (hxL a ++ [46] ++ ocL b ++ [46] ++ hxL c ++ [46] ++ ocL d)) (by rw [B_size]; simp; omega)
  have s2 := v4_f (s := B (hxL a ++ [46] ++ ocL b ++ [46] ++ hxL c ++ [46] ++ hxL d)) (by rw [B_size]; simp; omega)
  rw [B_data, hv1] at s1
  rw [B_data, hv2] at s2
  have hx0 : ∀ s : ByteArray, (s.extract 0 0).size = 0 := fun s => by simp
  unfold bastionlaw07_AddrBytes.f
  rw [lives_f 95, Option.bind_some, if_pos rfl, hn, hdt]
  simp only [a1, b1, c1, d1, e1, Option.bind_some, B_append, B_size, hx0, s1, s2, List.length_append, List.length_cons, List.length_nil]
  obtain ⟨m, hm⟩ : ∃ m, m = a * 16777216 + b * 65536 + c * 256 + d := ⟨_, rfl⟩
  have hmz : v4n (some m) = (m : Int) := rfl
  have hme : v4e (some m) = 0 := rfl
  rw [← hm, hmz, hme]
  clear s1 s2 hv1 hv2 hn a1 b1 c1 d1 e1 a2 b2 c2 d2 e2 hmz hme w0 w1 w2 w3
  rw [if_pos (by omega), if_pos (by omega), if_pos (by omega), if_pos (by omega), if_pos (by omega), if_pos (by omega), if_pos (by omega), if_pos (by omega), if_pos (by omega), if_pos (by omega), if_pos (by omega), if_pos (by omega), if_pos (by omega), if_pos (by omega), if_pos (by omega), if_pos rfl, if_pos rfl, if_pos rfl]
  rfl
end Go.Proofs.YtkabhnbjjnjdhaaDoor.Q
