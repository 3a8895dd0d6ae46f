/- Plain words on bytes: the sets of percent-encoding, encoding, and what they need; no program in sight. -/
/- Addresses of eight pieces, plain: what is written is read as what it was; what is read is eight small numbers. -/
/- Arguments opened: what a row's reader reads of lists, texts and structs, as the kinds of the walks. -/
/- An array of eight numbers opened. -/
import Derived.PlainAid
import Derived.Test.YtkabhnbjjnjdhaaDoorSAdL
import Derived.Test.YtkabhnbjjnjdhaaDoorRows
import Derived.Test.YtkabhnbjjnjdhaaDoorSWWords
import Derived.Deep.Slices
import Derived.Deep.Strs
import Derived.ChangeArms
import Derived.ChangeSame
import Derived.Test.YtkabhnbjjnjdhaaDoorSQbase
import Derived.OpenShut
section
set_option linter.unusedSimpArgs false
set_option linter.unusedVariables false
namespace Go.Proofs.YtkabhnbjjnjdhaaDoor.P1
/-- A digit's sign. -/
def hexU (n : Nat) : UInt8 := if n < 10 then (48 + n).toUInt8 else (55 + n).toUInt8
end Go.Proofs.YtkabhnbjjnjdhaaDoor.P1
end
section
set_option linter.unusedSimpArgs false
set_option linter.unusedVariables false
namespace Go.Proofs.YtkabhnbjjnjdhaaDoor.Ad
open Go
theorem hexU_len (n : Nat) : 0 < (hexU n).length ∧ (hexU n).length ≤ 4 := by
  unfold hexU hexS hexJ
  rw [List.length_map, List.length_range]
  split
  · omega
  · split
    · omega
    · split <;> omega
theorem join_len (sep : List UInt8) (hs : sep.length ≤ 1) : ∀ r : List (List UInt8), (∀ x ∈ r, x.length ≤ 4) → (Lib.joinTail sep r).length ≤ 5 * r.length := by
  intro r
  unfold Lib.joinTail
  induction r with
  | nil => intro _; simp
  | cons y q ih =>
    intro hq
    have := ih (fun z hz => hq z (List.mem_cons_of_mem _ hz))
    have hy := hq y List.mem_cons_self
    rw [List.map_cons, List.flatten_cons, List.length_append, List.length_append, List.length_cons]
    omega
theorem valF_lt {b : Nat} (hb : 0 < b) : ∀ (l : List UInt8) (acc : Nat), allD b l = true → valF b acc l < (acc + 1) * b ^ l.length
  | [], acc, _ => by unfold valF; simp
  | c :: r, acc, h => by
    unfold allD at h
    rw [List.all_cons, Bool.and_eq_true] at h
    have h1 := of_decide_eq_true h.1
    have ih := valF_lt hb r (acc * b + dgN c) h.2
    unfold valF
    refine Nat.lt_of_lt_of_le ih ?_
    rw [List.length_cons, Nat.pow_succ, Nat.mul_comm (b ^ r.length) b, ← Nat.mul_assoc]
    refine Nat.mul_le_mul_right _ ?_
    rw [Nat.add_mul]
    omega
end Go.Proofs.YtkabhnbjjnjdhaaDoor.Ad
end
section
set_option linter.unusedSimpArgs false
set_option linter.unusedVariables false
namespace Go.Proofs.YtkabhnbjjnjdhaaDoor.Q
open Go.RowKit Go.Proofs.YtkabhnbjjnjdhaaDoorW.PrintWords Go.Deep Go.ChangeShapes Go.WideShapes
section
variable {H : Type} {enc : TypeId × Value → H} {P : Program} {w : World} {base : Nat} {spare : Nat → Bool} {held : Bool}
end
end Go.Proofs.YtkabhnbjjnjdhaaDoor.Q
end
section
set_option linter.unusedSimpArgs false
set_option linter.unusedVariables false
namespace Go.Proofs.YtkabhnbjjnjdhaaDoor.Q
open Go.RowKit Go.Proofs.YtkabhnbjjnjdhaaDoorW.PrintWords Go.Deep Go.ChangeShapes Go.WideShapes
section
variable {H : Type} {enc : TypeId × Value → H} {w : World} {base : Nat} {spare : Nat → Bool} {held : Bool}
end
end Go.Proofs.YtkabhnbjjnjdhaaDoor.Q
end
