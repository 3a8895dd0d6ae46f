/- What bastionref01.In and Encode answer; encoding and decoding undo one another, on lists of bytes. -/
import Derived.Test.YtbcbmmlpgdndpaaDoorSPctRd
import Derived.Test.YtbcbmmlpgdndpaaDoorSB5
import Derived.Test.YtbcbmmlpgdndpaaDoorSQbastionref01EncodeA
namespace Go.Proofs.YtbcbmmlpgdndpaaDoor.Q.Pc
open Go.RowKit Go.Proofs.YtbcbmmlpgdndpaaDoorW.PrintWords Go.Proofs.YtbcbmmlpgdndpaaDoorW.PrintLast Go.Proofs.YtbcbmmlpgdndpaaDoorW.PrintMore Go.Proofs.YtbcbmmlpgdndpaaDoor.P1
set_option linter.unusedSimpArgs false
set_option linter.unusedVariables false
theorem ref_In_tab : ∀ s : Fin 8, ∀ b : Fin 256, bastionref01_In.f 40 ((s.val : Int) + 1) (b.val : Int) = some (inB ((s.val : Int) + 1) (b.val : Int)) := by
  decide +kernel
def inR (s b : Int) : Bool := if s < 1 ∨ 9 ≤ s then false else inB s b
theorem ref_In_40 (s b : Int) (h0 : 0 ≤ b) (h1 : b < 256) : bastionref01_In.f 40 s b = some (inR s b) := by
  unfold inR
  by_cases h : s < 1 ∨ 9 ≤ s
  · rw [if_pos h]
    rw [bastionref01_In.f]
    by_cases h2 : s < 1
    · rw [if_pos h2]; rfl
    · rw [if_neg h2, decide_eq_true (show s ≥ 9 by omega)]; rfl
  · rw [if_neg h]
    have := ref_In_tab ⟨(s - 1).toNat, by omega⟩ ⟨b.toNat, by omega⟩
    simp only [] at this
    rw [show (((s - 1).toNat : Nat) : Int) + 1 = s by omega, show ((b.toNat : Nat) : Int) = b by omega] at this
    exact this
theorem ref_In_f (s b : Int) (h0 : 0 ≤ b) (h1 : b < 256) (k : Nat) (hk : 40 ≤ k) : bastionref01_In.f k s b = some (inR s b) :=
  at_more (fun k => bastionref01_In.mono _ _ k) hk (ref_In_40 s b h0 h1)
theorem inR_eq {s : Int} (b : Int) (h0 : 0 ≤ s) : inR s b = inB s b := by
  unfold inR
  by_cases h : s < 1 ∨ 9 ≤ s
  · rw [if_pos h]; unfold inB
    repeat rw [if_neg (by omega)]
  · rw [if_neg h]
theorem enc_tab : ∀ b : Fin 256, 0 ≤ (Int.tdiv (b.val : Int) 16) % 256 ∧ (Int.tdiv (b.val : Int) 16) % 256 < 16 ∧ 0 ≤ Int.tmod (b.val : Int) 16 ∧ Int.tmod (b.val : Int) 16 < 16 ∧
    bt (⟨#[48, 49, 50, 51, 52, 53, 54, 55, 56, 57, 65, 66, 67, 68, 69, 70]⟩ : ByteArray) ((Int.tdiv (b.val : Int) 16) % 256) = ((hexU (b.val / 16)).toNat : Int) ∧
    bt (⟨#[48, 49, 50, 51, 52, 53, 54, 55, 56, 57, 65, 66, 67, 68, 69, 70]⟩ : ByteArray) (Int.tmod (b.val : Int) 16) = ((hexU (b.val % 16)).toNat : Int) := by decide +kernel
theorem ref_Encode_l0 (s : Int) (h1 : 1 ≤ s) (h9 : s < 9) (n : Nat) : ∀ (r p : List UInt8) (x : List Int) (k : Nat), r.length ≤ n → n + 50 ≤ k → x.length + 3 * r.length ≤ 140737488355000 → p.length + r.length ≤ 140737488355000 →
    bastionref01_Encode.l0 k (B (p ++ r)) s x p.length = some (strOfNums (x ++ ns (encL s r)), 0) := by
  induction n with
  | zero =>
    intro r p x k hl hk hx hp
    obtain ⟨k, rfl⟩ : ∃ m, k = m + 1 := ⟨k - 1, by omega⟩
    obtain rfl : r = [] := List.eq_nil_of_length_eq_zero (by omega)
    simp only [bastionref01_Encode.l0]
    rw [if_neg (by rw [B_size]; simp)]
    simp [encL, ns]
  | succ n ih =>
    intro r p x k hl hk hx hp
    obtain ⟨k, rfl⟩ : ∃ m, k = m + 1 := ⟨k - 1, by omega⟩
    cases r with
    | nil =>
      simp only [bastionref01_Encode.l0]
      rw [if_neg (by rw [B_size]; simp)]
      simp [encL, ns]
    | cons c r =>
      have hsz := B_snoc_size p r c
      have hx' : x.length + 3 * (r.length + 1) ≤ 140737488355000 := by simpa using hx
      have hp' : p.length + (r.length + 1) ≤ 140737488355000 := by simpa using hp
      have h0 : bt (B (p ++ c :: r)) p.length = (c.toNat : Int) := by rw [bt_end p (c :: r) 0 _ (by omega)]; rfl
      have E1 := Lib.hid (show wrap64 ((p.length : Int) + 1) = (p.length : Int) + 1 from w64 (by omega) (by omega))
      have hc := enc_tab ⟨c.toNat, c.toNat_lt⟩
      simp only [] at hc
      obtain ⟨g1, g2, g3, g4, g5, g6⟩ := hc
      have key : ∀ y : List UInt8, y = encByte s c → bastionref01_Encode.l0 k (B (p ++ c :: r)) s (x ++ ns y) ((p.length : Int) + 1) = some (strOfNums (x ++ ns (encL s (c :: r))), 0) := by
        intro y hy
        have hyl : y.length ≤ 3 := by rw [hy]; exact encByte_length s c
        have := ih r (p ++ [c]) (x ++ ns y) k (by simpa using hl) (by omega) (by rw [List.length_append, ns_length]; omega) (by simp; omega)
        rw [← snoc_eq] at this
        simp only [List.length_append, List.length_cons, List.length_nil, Nat.zero_add, Int.natCast_add, Int.natCast_one] at this
        rw [this, show encL s (c :: r) = y ++ encL s r by rw [hy]; rfl, ns_append]
        simp
      simp only [bastionref01_Encode.l0]
      rw [if_pos (by rw [hsz]; omega), if_pos (by omega), h0, ref_In_f s c.toNat (by omega) (u8_lt c) k (by omega), inR_eq _ (by omega)]
      simp only [Option.bind_some]
      by_cases hin : inB s c.toNat = true
      · rw [if_pos hin, if_pos g1, if_pos g2, if_pos g3, if_pos g4, g5, g6, if_pos (by simp; omega), E1.out]
        exact key [37, hexU (c.toNat / 16), hexU (c.toNat % 16)] (by unfold encByte; rw [if_pos hin])
      · rw [if_neg hin, if_pos (by omega), E1.out]
        exact key [c] (by unfold encByte; rw [if_neg hin])
theorem ref_Encode_good (l : List UInt8) (s : Int) (h1 : 1 ≤ s) (h9 : s < 9) (h : l.length ≤ 35184372088832) : Ev (fun k => bastionref01_Encode.f k (B l) s) (B (encL s l), 0) :=
  Ev.mk (l.length + 60) fun k hk => by
    obtain ⟨k, rfl⟩ : ∃ m, k = m + 1 := ⟨k - 1, by omega⟩
    unfold bastionref01_Encode.f
    rw [if_neg (by omega), decide_eq_false (by omega)]
    simp only [bastionref01_Encode.j0]
    have := ref_Encode_l0 s h1 h9 l.length l [] [] k (Nat.le_refl _) (by omega) (by simp; omega) (by simp; omega)
    rw [List.nil_append, List.nil_append, strOf_ns] at this
    simpa using this
end Go.Proofs.YtbcbmmlpgdndpaaDoor.Q.Pc
