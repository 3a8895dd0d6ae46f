/- Addresses as texts, plain: what is written is read as what it was; a full stop behind; forms of one address. -/
import Derived.Test.YtkabhnbjjnjdhaaDoorSAdP
set_option linter.unusedSimpArgs false
set_option linter.unusedVariables false
namespace Go.Proofs.YtkabhnbjjnjdhaaDoor.Ad
open Go
theorem join_two (x y : List UInt8) (r : List (List UInt8)) (sep : List UInt8) : Lib.join (x :: y :: r) sep = x ++ sep ++ Lib.join (y :: r) sep := by
  rw [Lib.join_cons, Lib.join_cons]
  unfold Lib.joinTail
  simp
theorem parts_snoc_sep {c : UInt8} : ∀ l : List UInt8, parts c (l ++ [c]) = parts c l ++ [[]]
  | [] => by
    show parts c [c] = _
    unfold parts
    rw [if_pos rfl]
    rfl
  | b :: l => by
    have ih := parts_snoc_sep (c := c) l
    show parts c (b :: (l ++ [c])) = _
    conv => lhs; unfold parts
    conv => rhs; unfold parts
    by_cases h : b = c
    · rw [if_pos h, if_pos h, ih]; rfl
    · rw [if_neg h, if_neg h, ih]
      cases hp : parts c l with
      | nil => exact absurd hp (parts_ne c l)
      | cons p ps => rfl
/-- one more that is no separator: the last part grows -/
theorem parts_snoc {c x : UInt8} (hx : x ≠ c) : ∀ l : List UInt8, ∃ ps p, parts c l = ps ++ [p] ∧ parts c (l ++ [x]) = ps ++ [p ++ [x]]
  | [] => ⟨[], [], rfl, by
    show parts c [x] = _
    unfold parts
    rw [if_neg hx]
    rfl⟩
  | b :: l => by
    obtain ⟨ps, p, h1, h2⟩ := parts_snoc hx l
    by_cases h : b = c
    · refine ⟨[] :: ps, p, ?_, ?_⟩
      · conv => lhs; unfold parts
        rw [if_pos h, h1]; rfl
      · show parts c (b :: (l ++ [x])) = _
        conv => lhs; unfold parts
        rw [if_pos h, h2]; rfl
    · cases ps with
      | nil =>
        refine ⟨[], b :: p, ?_, ?_⟩
        · conv => lhs; unfold parts
          rw [if_neg h, h1]; rfl
        · show parts c (b :: (l ++ [x])) = _
          conv => lhs; unfold parts
          rw [if_neg h, h2]; rfl
      | cons q qs =>
        refine ⟨(b :: q) :: qs, p, ?_, ?_⟩
        · conv => lhs; unfold parts
          rw [if_neg h, h1]; rfl
        · show parts c (b :: (l ++ [x])) = _
          conv => lhs; unfold parts
          rw [if_neg h, h2]; rfl
theorem partsD_ne (l : List UInt8) : partsD l ≠ [] := cutLast_ne (parts_ne 46 l)
theorem ends_last (l : List UInt8) : endsL l = ((numL ((partsD l).getLast (partsD_ne l))).isSome || (!((partsD l).getLast (partsD_ne l)).isEmpty && allD 10 ((partsD l).getLast (partsD_ne l)))) := rfl
theorem dec3_all : ∀ n : Fin 256, numL (dec3 n.val) = some n.val ∧ 46 ∉ dec3 n.val ∧ 58 ∉ dec3 n.val ∧ dec3 n.val ≠ [] ∧ (dec3 n.val).length ≤ 3 := by decide +kernel
theorem dec3_of {n : Nat} (h : n < 256) : numL (dec3 n) = some n ∧ 46 ∉ dec3 n ∧ 58 ∉ dec3 n ∧ dec3 n ≠ [] ∧ (dec3 n).length ≤ 3 := dec3_all ⟨n, h⟩
theorem txt4_eq (n : Nat) : txt4 n = dec3 (n / 16777216 % 256) ++ [46] ++ (dec3 (n / 65536 % 256) ++ [46] ++ (dec3 (n / 256 % 256) ++ [46] ++ dec3 (n % 256))) := by
  unfold txt4
  rw [join_two, join_two, join_two, Lib.join_one]
theorem txt4_len (n : Nat) : (txt4 n).length ≤ 15 := by
  have a := dec3_of (Nat.mod_lt (n / 16777216) (by decide : 0 < 256))
  have b := dec3_of (Nat.mod_lt (n / 65536) (by decide : 0 < 256))
  have c := dec3_of (Nat.mod_lt (n / 256) (by decide : 0 < 256))
  have d := dec3_of (Nat.mod_lt n (by decide : 0 < 256))
  rw [txt4_eq]
  simp only [List.length_append, List.length_singleton]
  omega
end Go.Proofs.YtkabhnbjjnjdhaaDoor.Ad
