/- Plain words on bytes: the sets of percent-encoding, encoding, and what they need; no program in sight. -/
/- Addresses as texts, plain: what is written is read as what it was; a full stop behind; forms of one address. -/
/- Arguments opened: what a row's reader reads of lists, texts and structs, as the kinds of the walks. -/
import Derived.PlainAid
import Derived.Test.YtkabhnbjjnjdhaaDoorSAdP
import Derived.Test.YtkabhnbjjnjdhaaDoorRows
import Derived.Test.YtkabhnbjjnjdhaaDoorSWWords
import Derived.Deep.Slices
import Derived.Deep.Strs
import Derived.ChangeArms
import Derived.ChangeSame
section
set_option linter.unusedSimpArgs false
set_option linter.unusedVariables false
namespace Go.Proofs.YtkabhnbjjnjdhaaDoor.P1
/-- A digit's sign. -/
def hexU (n : Nat) : UInt8 := if n < 10 then (48 + n).toUInt8 else (55 + n).toUInt8
end Go.Proofs.YtkabhnbjjnjdhaaDoor.P1
end
section
set_option linter.unusedSimpArgs false
set_option linter.unusedVariables false
namespace Go.Proofs.YtkabhnbjjnjdhaaDoor.Ad
open Go
theorem join_two (x y : List UInt8) (r : List (List UInt8)) (sep : List UInt8) : Lib.join (x :: y :: r) sep = x ++ sep ++ Lib.join (y :: r) sep := by
  rw [Lib.join_cons, Lib.join_cons]
  unfold Lib.joinTail
  simp
theorem partsD_ne (l : List UInt8) : partsD l ≠ [] := cutLast_ne (parts_ne 46 l)
theorem ends_last (l : List UInt8) : endsL l = ((numL ((partsD l).getLast (partsD_ne l))).isSome || (!((partsD l).getLast (partsD_ne l)).isEmpty && allD 10 ((partsD l).getLast (partsD_ne l)))) := rfl
theorem dec3_all : ∀ n : Fin 256, numL (dec3 n.val) = some n.val ∧ 46 ∉ dec3 n.val ∧ 58 ∉ dec3 n.val ∧ dec3 n.val ≠ [] ∧ (dec3 n.val).length ≤ 3 := by decide +kernel
theorem dec3_of {n : Nat} (h : n < 256) : numL (dec3 n) = some n ∧ 46 ∉ dec3 n ∧ 58 ∉ dec3 n ∧ dec3 n ≠ [] ∧ (dec3 n).length ≤ 3 := dec3_all ⟨n, h⟩
theorem txt4_eq (n : Nat) : txt4 n = dec3 (n / 16777216 % 256) ++ [46] ++ (dec3 (n / 65536 % 256) ++ [46] ++ (dec3 (n / 256 % 256) ++ [46] ++ dec3 (n % 256))) := by
  unfold txt4
  rw [join_two, join_two, join_two, Lib.join_one]
theorem txt4_len (n : Nat) : (txt4 n).length ≤ 15 := by
  have a := dec3_of (Nat.mod_lt (n / 16777216) (by decide : 0 < 256))
  have b := dec3_of (Nat.mod_lt (n / 65536) (by decide : 0 < 256))
  have c := dec3_of (Nat.mod_lt (n / 256) (by decide : 0 < 256))
  have d := dec3_of (Nat.mod_lt n (by decide : 0 < 256))
  rw [txt4_eq]
  simp only [List.length_append, List.length_singleton]
  omega
end Go.Proofs.YtkabhnbjjnjdhaaDoor.Ad
end
section
set_option linter.unusedSimpArgs false
set_option linter.unusedVariables false
namespace Go.Proofs.YtkabhnbjjnjdhaaDoor.Q
open Go.RowKit Go.Proofs.YtkabhnbjjnjdhaaDoorW.PrintWords Go.Deep Go.ChangeShapes Go.WideShapes
theorem bulk_one {H : Type} (x : DataW H) : 1 ≤ Rows.uptoBulk x := by
  cases x with
  | lit l => cases l <;> simp [Rows.uptoBulk]
  | nil => simp [Rows.uptoBulk]
  | ptr d => simp [Rows.uptoBulk]
  | slice a b => simp [Rows.uptoBulk]
  | agg a => simp [Rows.uptoBulk]
  | iface t d => simp [Rows.uptoBulk]
  | map e => simp [Rows.uptoBulk]
  | held h => simp [Rows.uptoBulk]
section
variable {H : Type} {enc : TypeId × Value → H} {P : Program} {w : World} {base : Nat} {spare : Nat → Bool} {held : Bool}
/-- whatever is read at type t is of the kind d, no greater than its bulk -/
def Opens {H : Type} (enc : TypeId × Value → H) (P : Program) (w : World) (base : Nat) (spare : Nat → Bool) (held : Bool) {α : Type} (d : Kd α) (t : TypeId) (m : α → Nat) : Prop :=
  ∀ (fuel : Nat) (cs : List Value) (x : DataW H × List MemPlace), DataW.trod enc P w base spare held fuel t cs = some x → ∃ v, d.K w v cs ∧ m v ≤ Rows.uptoBulk x.1
end
end Go.Proofs.YtkabhnbjjnjdhaaDoor.Q
end
