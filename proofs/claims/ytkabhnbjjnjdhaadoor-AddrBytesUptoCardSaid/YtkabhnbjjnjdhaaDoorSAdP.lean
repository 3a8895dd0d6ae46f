/- Addresses as texts, plain: what a part is, what four numbers are, what pieces are. -/
import Derived.Test.YtkabhnbjjnjdhaaDoorSAdZ
import Derived.Lib.AtoiAll
import Derived.Lib.ItoaNum
import Derived.Lib.Strings
import Derived.Lib.IndexMore
import Derived.Lib.Join
set_option linter.unusedSimpArgs false
set_option linter.unusedVariables false
namespace Go.Proofs.YtkabhnbjjnjdhaaDoor.Ad
open Go
/-- a number as it is read: one beyond all machine words is some great one -/
def capN (v : Nat) : Nat := if v ≤ 18446744073709551615 then v else 9223372036854775808
/-- a part: none, or its number -/
def numB (b : Nat) (t : List UInt8) : Option Nat := if allD b t = true then some (capN (val b t)) else none
def numL (l : List UInt8) : Option Nat :=
  if l = [] then none else if 1 < l.length ∧ l.getD 0 0 = 48 then (if l.getD 1 0 = 120 ∨ l.getD 1 0 = 88 then numB 16 (l.drop 2) else numB 8 (l.drop 1)) else numB 10 l
/-- a last one that is empty is left out, if it is not the only one -/
def cutLast (l : List (List UInt8)) : List (List UInt8) := if 1 < l.length ∧ l.getLast? = some [] then l.dropLast else l
def partsD (l : List UInt8) : List (List UInt8) := cutLast (parts 46 l)
theorem cutLast_ne {l : List (List UInt8)} (h : l ≠ []) : cutLast l ≠ [] := by
  unfold cutLast
  split
  · rename_i h1
    intro e
    have := congrArg List.length e
    rw [List.length_dropLast] at this
    simp at this
    omega
  · exact h
def lastP (l : List UInt8) : List UInt8 := (partsD l).getLast (cutLast_ne (parts_ne 46 l))
def endsL (l : List UInt8) : Bool := (numL (lastP l)).isSome || (!(lastP l).isEmpty && allD 10 (lastP l))
/-- the parts behind i of n, in all -/
def v4F (n : Nat) : Nat → Nat → List (List UInt8) → Option Nat
  | _, sum, [] => some sum
  | i, sum, p :: r => match numL p with
    | none => none
    | some m => if r.isEmpty then (if m / 2 ^ (8 * (5 - n)) = 0 then some (sum + m) else none)
        else if m ≤ 255 then v4F n (i + 1) (sum + m * 2 ^ (8 * (3 - i))) r else none
def v4L (l : List UInt8) : Option Nat := if (partsD l).length ≤ 4 then v4F (partsD l).length 0 0 (partsD l) else none
/-- the decimal digits of a small number -/
def dec3 (n : Nat) : List UInt8 := if n < 10 then [UInt8.ofNat (48 + n)] else if n < 100 then [UInt8.ofNat (48 + n / 10), UInt8.ofNat (48 + n % 10)] else [UInt8.ofNat (48 + n / 100), UInt8.ofNat (48 + n / 10 % 10), UInt8.ofNat (48 + n % 10)]
theorem itoa_dec3 {n : Nat} (h : n < 1000) : Lib.itoa (n : Int) = dec3 n := by
  unfold Lib.itoa dec3
  rw [if_neg (by omega), Int.toNat_natCast]
  by_cases h1 : n < 10
  · rw [if_pos h1, Lib.decDigits, dif_pos h1]
  · rw [if_neg h1, Lib.decDigits, dif_neg h1]
    by_cases h2 : n < 100
    · rw [if_pos h2, Lib.decDigits, dif_pos (by omega)]; rfl
    · rw [if_neg h2, Lib.decDigits, dif_neg (by omega), Lib.decDigits, dif_pos (by omega), Nat.div_div_eq_div_mul]; rfl
def txt4 (n : Nat) : List UInt8 := Lib.join [dec3 (n / 16777216 % 256), dec3 (n / 65536 % 256), dec3 (n / 256 % 256), dec3 (n % 256)] [46]
/-- four decimal numbers -/
def decP (p : List UInt8) : Option Nat := (List.range 256).find? fun n => dec3 n == p
theorem decP_dec3_all : ∀ n : Fin 256, decP (dec3 n.val) = some n.val := by decide +kernel
theorem decP_dec3 {n : Nat} (h : n < 256) : decP (dec3 n) = some n := decP_dec3_all ⟨n, h⟩
theorem decP_some {p : List UInt8} {n : Nat} (h : decP p = some n) : n < 256 ∧ p = dec3 n := by
  unfold decP at h
  have h1 := List.find?_some h
  have h2 := List.mem_of_find?_eq_some h
  exact ⟨by simpa using h2, (beq_iff_eq.1 h1).symm⟩
theorem atoi_dec3_all : ∀ n : Fin 256, Lib.atoiAll (dec3 n.val) = .ok (n.val : Int) := by decide +kernel
theorem atoi_dec3 {n : Nat} (h : n < 256) : Lib.atoiAll (dec3 n) = .ok (n : Int) := atoi_dec3_all ⟨n, h⟩
/-- a part that is a number from 0 to 255, written as it is written -/
theorem decP_ok {p : List UInt8} {v : Int} (h0 : 0 ≤ v) (h1 : v ≤ 255) (h : Lib.itoa v = p) : decP p = some v.toNat := by
  obtain ⟨n, rfl⟩ : ∃ n : Nat, v = n := ⟨v.toNat, by omega⟩
  rw [← h, itoa_dec3 (by omega), decP_dec3 (by omega), Int.toNat_natCast]
theorem decP_no {p : List UInt8} (h : ∀ v : Int, Lib.atoiAll p = .ok v → Lib.itoa v = p → 0 ≤ v → v ≤ 255 → False) : decP p = none := by
  cases e : decP p with
  | none => rfl
  | some n =>
    exfalso
    obtain ⟨h1, rfl⟩ := decP_some e
    exact h n (atoi_dec3 h1) (itoa_dec3 (by omega)) (by omega) (by omega)
def dotM : List (Option Nat) → Option (Nat × Nat)
  | [some a, some b, some c, some d] => some (a * 256 + b, c * 256 + d)
  | _ => none
def dotL (l : List UInt8) : Option (Nat × Nat) := dotM ((parts 46 l).map decP)
theorem dotM_len {l : List (Option Nat)} (h : l.length ≠ 4) : dotM l = none := by
  unfold dotM
  split
  · exact absurd rfl h
  · rfl
theorem dotM_none {l : List (Option Nat)} (h : none ∈ l) : dotM l = none := by
  unfold dotM
  split
  · simp at h
  · rfl
def pieceL (w : List UInt8) : Option Nat := if w ≠ [] ∧ w.length ≤ 4 ∧ allD 16 w = true then some (val 16 w) else none
def pcsF (e : Bool) : List (List UInt8) → Option (List Nat)
  | [] => some []
  | w :: r => match (if e ∧ r.isEmpty then dotL w else none) with
    | some (a, b) => some [a, b]
    | none => match pieceL w, pcsF e r with
      | some n, some l => some (n :: l)
      | _, _ => none
def pcsL (e : Bool) (l : List UInt8) : Option (List Nat) := if l = [] then some [] else pcsF e (parts 58 l)
def v6L (l : List UInt8) : Option (List Nat) :=
  if (Lib.cut l [58, 58]).2.2 then match pcsL false (Lib.cut l [58, 58]).1, pcsL true (Lib.cut l [58, 58]).2.1 with
    | some a, some b => if a.length + b.length ≤ 7 then some (a ++ List.replicate (8 - a.length - b.length) 0 ++ b) else none
    | _, _ => none
  else match pcsL true l with
    | some a => if a.length = 8 then some a else none
    | none => none
/-- how many noughts a row begins with -/
def zeros : List Bool → Nat
  | [] => 0
  | n :: r => if n then zeros r + 1 else 0
/-- the longest run of noughts from place i on, the first of several -/
def gapF : Nat → List Bool → Nat × Nat → Nat × Nat
  | _, [], g => g
  | i, n :: r, g => gapF (i + 1) r (if max (g.2 - g.1) 1 < zeros (n :: r) then (i, i + zeros (n :: r)) else g)
def gapB (a : List Bool) : Nat × Nat := gapF 0 a (0, 0)
def isZ (a : List Nat) : List Bool := a.map (· == 0)
def hexJoin (a : List Nat) : List UInt8 := Lib.join (a.map hexU) [58]
def txt6 (a : List Nat) : List UInt8 :=
  if (isZ a).all id then [58, 58] else if (gapB (isZ a)).2 = 0 then hexJoin a else hexJoin (a.take (gapB (isZ a)).1) ++ [58, 58] ++ hexJoin (a.drop (gapB (isZ a)).2)
end Go.Proofs.YtkabhnbjjnjdhaaDoor.Ad
