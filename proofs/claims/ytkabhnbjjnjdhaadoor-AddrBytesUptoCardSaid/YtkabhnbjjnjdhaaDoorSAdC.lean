/- Addresses: what the program's functions answer, in plain words; the first question of every law. -/
import Derived.Test.YtkabhnbjjnjdhaaDoorSAV4
import Derived.Test.YtkabhnbjjnjdhaaDoorSAV6
import Derived.Test.YtkabhnbjjnjdhaaDoorSATx6
import Derived.Test.YtkabhnbjjnjdhaaDoorSB3
import Derived.Test.YtkabhnbjjnjdhaaDoorSQaddrTextV4A
import Derived.Test.YtkabhnbjjnjdhaaDoorSQbastionlaw072
set_option linter.unusedSimpArgs false
set_option linter.unusedVariables false
namespace Go.Proofs.YtkabhnbjjnjdhaaDoor.Q
open Go.RowKit Go.Proofs.YtkabhnbjjnjdhaaDoorW.PrintWords Go.Proofs.YtkabhnbjjnjdhaaDoorW.PrintLast Go.Proofs.YtkabhnbjjnjdhaaDoorW.PrintMore Go.Proofs.YtkabhnbjjnjdhaaDoor.Ad
theorem and255 {x : Nat} (h : x < 4294967296) : Go.bits .and .u32 (x : Int) 255 = ((x % 256 : Nat) : Int) := by
  have := bits_mask .u32 32 (by decide) (fun n h0 h1 => by rw [IntKind.wrap_u32]; omega) 8 (by decide) (x : Int) (by omega) (by omega)
  rw [show (2 : Int) ^ 8 - 1 = 255 from rfl] at this
  rw [this]
  omega
theorem t4_step (n : Nat) (hn : n < 4294967296) (k : Nat) (xs : List ByteArray) (hx : xs.length ≤ 100) (s : Nat) (hs : s ≤ 24) : addr_TextV4.l0 (k + 1) (n : Int) xs (s : Int) = addr_TextV4.l0 k (n : Int) (xs ++ [B (dec3 (n / 2 ^ s % 256))]) ((s : Int) - 8) := by
  have hsh : shr .u32 (n : Int) (s : Int) = ((n / 2 ^ s : Nat) : Int) := by
    unfold shr
    rw [Int.toNat_natCast, show IntKind.u32.bits = 32 from rfl, Nat.min_eq_left (by omega)]
    simp
  have hlt : n / 2 ^ s < 4294967296 := Nat.lt_of_le_of_lt (Nat.div_le_self _ _) hn
  have hm : n / 2 ^ s % 256 < 256 := Nat.mod_lt _ (by decide)
  conv => lhs; unfold addr_TextV4.l0
  rw [if_pos (by omega), if_pos (by omega), hsh, and255 hlt, wrap64_of (by omega) (by omega)]
  unfold strconv_Itoa_32.f
  rw [if_pos ⟨by omega, by omega⟩, Option.bind_some, if_pos (by omega), itoa_dec3 (by omega), wrap64_of (by omega) (by omega)]
  rfl
theorem textV4_f (n : Nat) (hn : n < 4294967296) (k : Nat) : addr_TextV4.f (k + 5) (n : Int) = some (B (txt4 n)) := by
  unfold addr_TextV4.f
  rw [show (24 : Int) = ((24 : Nat) : Int) from rfl, t4_step n hn (k + 4) [] (by simp) 24 (by omega)]
  rw [show ((24 : Nat) : Int) - 8 = ((16 : Nat) : Int) from rfl, t4_step n hn (k + 3) _ (by simp) 16 (by omega)]
  rw [show ((16 : Nat) : Int) - 8 = ((8 : Nat) : Int) from rfl, t4_step n hn (k + 2) _ (by simp) 8 (by omega)]
  rw [show ((8 : Nat) : Int) - 8 = ((0 : Nat) : Int) from rfl, t4_step n hn (k + 1) _ (by simp) 0 (by omega)]
  unfold addr_TextV4.l0
  rw [if_neg (by decide)]
  have e : joinB ([] ++ [B (dec3 (n / 2 ^ 24 % 256))] ++ [B (dec3 (n / 2 ^ 16 % 256))] ++ [B (dec3 (n / 2 ^ 8 % 256))] ++ [B (dec3 (n / 2 ^ 0 % 256))]) ⟨#[46]⟩ = txt4 n := by
    show Lib.join [dec3 (n / 16777216 % 256), dec3 (n / 65536 % 256), dec3 (n / 256 % 256), dec3 (n / 1 % 256)] [46] = _
    rw [Nat.div_one]
    rfl
  unfold strings_Join.f
  rw [e, if_pos ⟨by simp, by have := txt4_len n; omega⟩]
  rfl
theorem v4_f {s : ByteArray} (h : s.size ≤ 1000000000) : addr_V4.f s = some (v4n (v4L s.data.toList), v4e (v4L s.data.toList)) := if_pos h
theorem ends_f {s : ByteArray} (h : s.size ≤ 1000000000) : addr_Ends.f s = some (endsL s.data.toList) := by
  unfold addr_Ends.f
  rw [if_pos h]
  congr 1
  have hne := partsB_ne s
  have hl : (lastB s).data.toList = (partsD s.data.toList).getLast (partsD_ne _) := by
    unfold lastB partsB
    rw [List.length_map, List.getD_eq_getElem?_getD, List.getElem?_map, ← List.getLast?_eq_getElem?, List.getLast?_eq_some_getLast (partsD_ne _)]
    rfl
  have hz : decide ((lastB s).size = 0) = ((partsD s.data.toList).getLast (partsD_ne _)).isEmpty := by
    rw [← hl, Lib.size_eq]
    cases (lastB s).data.toList <;> rfl
  unfold endP
  rw [ends_last, numP_eq, hz, all_dec, hl]
  cases numL ((partsD s.data.toList).getLast (partsD_ne _)) <;> rfl
theorem lives_f (k : Nat) : bastionlaw07_lives.f (k + 5) = some true := by
  have a1 : v4L [48, 120, 55, 102, 46, 49] = some 2130706433 := by decide +kernel
  have a2 : v4L [49, 46, 50, 46, 51, 46, 50, 53, 54] = none := by decide +kernel
  have a3 : v6L [49, 58, 48, 58, 48, 58, 50, 58, 48, 58, 48, 58, 48, 58, 51] = some [1, 0, 0, 2, 0, 0, 0, 3] := by decide +kernel
  have a4 : txt6 [1, 0, 0, 2, 0, 0, 0, 3] = [49, 58, 48, 58, 48, 58, 50, 58, 58, 51] := by decide +kernel
  have a5 : txt4 2130706433 = [49, 50, 55, 46, 48, 46, 48, 46, 49] := by decide +kernel
  have a6 : endsL [97, 46, 49] = true := by decide +kernel
  have a7 : endsL [49, 46, 97] = false := by decide +kernel
  have b1 := v4_f (s := ⟨#[48, 120, 55, 102, 46, 49]⟩) (by decide)
  have b2 := v4_f (s := ⟨#[49, 46, 50, 46, 51, 46, 50, 53, 54]⟩) (by decide)
  have b6 := ends_f (s := ⟨#[97, 46, 49]⟩) (by decide)
  have b7 := ends_f (s := ⟨#[49, 46, 97]⟩) (by decide)
  rw [show (⟨#[48, 120, 55, 102, 46, 49]⟩ : ByteArray).data.toList = [48, 120, 55, 102, 46, 49] from rfl, a1] at b1
  rw [show (⟨#[49, 46, 50, 46, 51, 46, 50, 53, 54]⟩ : ByteArray).data.toList = [49, 46, 50, 46, 51, 46, 50, 53, 54] from rfl, a2] at b2
  rw [show (⟨#[97, 46, 49]⟩ : ByteArray).data.toList = [97, 46, 49] from rfl, a6] at b6
  rw [show (⟨#[49, 46, 97]⟩ : ByteArray).data.toList = [49, 46, 97] from rfl, a7] at b7
  have b3 : addr_V6.f ⟨#[49, 58, 48, 58, 48, 58, 50, 58, 48, 58, 48, 58, 48, 58, 51]⟩ = some (1, 0, 0, 2, 0, 0, 0, 3, 0) := by
    unfold addr_V6.f
    rw [if_pos (by decide), show (⟨#[49, 58, 48, 58, 48, 58, 50, 58, 48, 58, 48, 58, 48, 58, 51]⟩ : ByteArray).data.toList = [49, 58, 48, 58, 48, 58, 50, 58, 48, 58, 48, 58, 48, 58, 51] from rfl, a3]
    rfl
  have b4 : addr_TextV6.f 1 0 0 2 0 0 0 3 = some (B [49, 58, 48, 58, 48, 58, 50, 58, 58, 51]) := by
    unfold addr_TextV6.f
    rw [if_pos (by decide)]
    show some (B (txt6 [1, 0, 0, 2, 0, 0, 0, 3])) = _
    rw [a4]
  have b5 := textV4_f 2130706433 (by decide) k
  rw [a5] at b5
  unfold bastionlaw07_lives.f
  rw [b1, b2, b3]
  simp only [Option.bind_some]
  rw [if_pos (by first | trivial | rfl), if_pos (by first | trivial | rfl), if_pos (by first | trivial | rfl), if_pos (by first | trivial | rfl), b4]
  simp only [Option.bind_some]
  rw [if_pos (B_toList _)]
  rw [show v4n (some 2130706433) = ((2130706433 : Nat) : Int) from rfl, b5]
  simp only [Option.bind_some]
  rw [if_pos (B_toList _), b6, b7]
  rfl
end Go.Proofs.YtkabhnbjjnjdhaaDoor.Q
