/- Digits, numbers of digits, what stands between bytes: plain. -/
import Derived.Lib.AtoiAll
import Derived.Lib.ItoaNum
import Derived.Lib.Strings
import Derived.Lib.IndexMore
import Derived.Lib.Join
set_option linter.unusedSimpArgs false
set_option linter.unusedVariables false
namespace Go.Proofs.YtkabhnbjjnjdhaaDoor.Ad
open Go
/-- a byte's digit; 99: it is none -/
def dgN (c : UInt8) : Nat := if 48 ≤ c.toNat ∧ c.toNat ≤ 57 then c.toNat - 48 else if 97 ≤ c.toNat ∧ c.toNat ≤ 122 then c.toNat - 87 else if 65 ≤ c.toNat ∧ c.toNat ≤ 90 then c.toNat - 55 else 99
def allD (b : Nat) (l : List UInt8) : Bool := l.all fun c => decide (dgN c < b)
def valF (b acc : Nat) : List UInt8 → Nat
  | [] => acc
  | c :: r => valF b (acc * b + dgN c) r
def val (b : Nat) (l : List UInt8) : Nat := valF b 0 l
/-- the number that a row of digits is, at most M -/
def puL (b M : Nat) : Nat → List UInt8 → Lib.NumEnd Nat
  | acc, [] => .ok acc
  | acc, c :: r => if dgN c < b then (if M < acc * b + dgN c then .range else puL b M (acc * b + dgN c) r) else .syntax
def puAll (b M : Nat) (l : List UInt8) : Lib.NumEnd Nat := if l = [] then .syntax else puL b M 0 l
theorem valF_ge {b : Nat} (hb : 0 < b) : ∀ (l : List UInt8) (acc : Nat), acc ≤ valF b acc l
  | [], _ => Nat.le_refl _
  | c :: r, acc => Nat.le_trans (Nat.le_trans (Nat.le_mul_of_pos_right _ hb) (Nat.le_add_right _ _)) (valF_ge hb r _)
theorem puL_ok {b M : Nat} (hb : 0 < b) : ∀ (l : List UInt8) (acc : Nat), acc ≤ M → allD b l = true → puL b M acc l = if valF b acc l ≤ M then .ok (valF b acc l) else .range
  | [], acc, h, _ => by unfold puL valF; rw [if_pos h]
  | c :: r, acc, h, ha => by
    unfold allD at ha
    rw [List.all_cons, Bool.and_eq_true] at ha
    unfold puL valF
    rw [if_pos (of_decide_eq_true ha.1)]
    by_cases h2 : M < acc * b + dgN c
    · rw [if_pos h2, if_neg]
      have := valF_ge hb r (acc * b + dgN c)
      omega
    · rw [if_neg h2]
      exact puL_ok hb r _ (by omega) ha.2
theorem puL_bad {b M : Nat} : ∀ (l : List UInt8) (acc : Nat), allD b l = false → ∀ n, puL b M acc l ≠ .ok n
  | [], _, h, _ => by cases h
  | c :: r, acc, h, n => by
    unfold puL
    by_cases h1 : dgN c < b
    · rw [if_pos h1]
      split
      · intro e; cases e
      · refine puL_bad r _ ?_ n
        unfold allD at h ⊢
        rw [List.all_cons, decide_eq_true h1, Bool.true_and] at h
        exact h
    · rw [if_neg h1]; intro e; cases e
/-- what stands between bytes c -/
def parts (c : UInt8) : List UInt8 → List (List UInt8)
  | [] => [[]]
  | b :: r => if b = c then [] :: parts c r else match parts c r with
    | [] => [[b]]
    | p :: ps => (b :: p) :: ps
theorem parts_ne (c : UInt8) (l : List UInt8) : parts c l ≠ [] := by
  cases l with
  | nil => intro h; cases h
  | cons b r =>
    unfold parts
    split
    · intro h; cases h
    · split <;> (intro h; cases h)
def hexD (k : Nat) : Nat := if k < 10 then 48 + k else 87 + k
def hexS (n j : Nat) : List UInt8 := (List.range (j + 1)).map fun q => UInt8.ofNat (hexD (n / 16 ^ (j - q) % 16))
def hexJ (n : Nat) : Nat := if n < 16 then 0 else if n < 256 then 1 else if n < 4096 then 2 else 3
def hexU (n : Nat) : List UInt8 := hexS n (hexJ n)
end Go.Proofs.YtkabhnbjjnjdhaaDoor.Ad
