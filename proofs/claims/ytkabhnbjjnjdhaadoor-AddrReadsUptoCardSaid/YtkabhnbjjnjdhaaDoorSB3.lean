/- Digits, numbers of digits, what stands between bytes: plain. -/
/- strings.Cut, in print's form. -/
import Derived.Lib.AtoiAll
import Derived.Lib.ItoaNum
import Derived.Lib.Strings
import Derived.Lib.IndexMore
import Derived.Lib.Join
import Derived.Test.YtkabhnbjjnjdhaaDoorSQbase
import Derived.Shelf.Strings.Cut
section
set_option linter.unusedSimpArgs false
set_option linter.unusedVariables false
namespace Go.Proofs.YtkabhnbjjnjdhaaDoor.Ad
open Go
/-- a byte's digit; 99: it is none -/
def dgN (c : UInt8) : Nat := if 48 ≤ c.toNat ∧ c.toNat ≤ 57 then c.toNat - 48 else if 97 ≤ c.toNat ∧ c.toNat ≤ 122 then c.toNat - 87 else if 65 ≤ c.toNat ∧ c.toNat ≤ 90 then c.toNat - 55 else 99
def allD (b : Nat) (l : List UInt8) : Bool := l.all fun c => decide (dgN c < b)
def valF (b acc : Nat) : List UInt8 → Nat
  | [] => acc
  | c :: r => valF b (acc * b + dgN c) r
def val (b : Nat) (l : List UInt8) : Nat := valF b 0 l
/-- the number that a row of digits is, at most M -/
def puL (b M : Nat) : Nat → List UInt8 → Lib.NumEnd Nat
  | acc, [] => .ok acc
  | acc, c :: r => if dgN c < b then (if M < acc * b + dgN c then .range else puL b M (acc * b + dgN c) r) else .syntax
def puAll (b M : Nat) (l : List UInt8) : Lib.NumEnd Nat := if l = [] then .syntax else puL b M 0 l
theorem valF_ge {b : Nat} (hb : 0 < b) : ∀ (l : List UInt8) (acc : Nat), acc ≤ valF b acc l
  | [], _ => Nat.le_refl _
  | c :: r, acc => Nat.le_trans (Nat.le_trans (Nat.le_mul_of_pos_right _ hb) (Nat.le_add_right _ _)) (valF_ge hb r _)
theorem puL_ok {b M : Nat} (hb : 0 < b) : ∀ (l : List UInt8) (acc : Nat), acc ≤ M → allD b l = true → puL b M acc l = if valF b acc l ≤ M then .ok (valF b acc l) else .range
  | [], acc, h, _ => by unfold puL valF; rw [if_pos h]
  | c :: r, acc, h, ha => by
    unfold allD at ha
    rw [List.all_cons, Bool.and_eq_true] at ha
    unfold puL valF
    rw [if_pos (of_decide_eq_true ha.1)]
    by_cases h2 : M < acc * b + dgN c
    · rw [if_pos h2, if_neg]
      have := valF_ge hb r (acc * b + dgN c)
      omega
    · rw [if_neg h2]
      exact puL_ok hb r _ (by omega) ha.2
theorem puL_bad {b M : Nat} : ∀ (l : List UInt8) (acc : Nat), allD b l = false → ∀ n, puL b M acc l ≠ .ok n
  | [], _, h, _ => by cases h
  | c :: r, acc, h, n => by
    unfold puL
    by_cases h1 : dgN c < b
    · rw [if_pos h1]
      split
      · intro e; cases e
      · refine puL_bad r _ ?_ n
        unfold allD at h ⊢
        rw [List.all_cons, decide_eq_true h1, Bool.true_and] at h
        exact h
    · rw [if_neg h1]; intro e; cases e
/-- what stands between bytes c -/
def parts (c : UInt8) : List UInt8 → List (List UInt8)
  | [] => [[]]
  | b :: r => if b = c then [] :: parts c r else match parts c r with
    | [] => [[b]]
    | p :: ps => (b :: p) :: ps
theorem parts_ne (c : UInt8) (l : List UInt8) : parts c l ≠ [] := by
  cases l with
  | nil => intro h; cases h
  | cons b r =>
    unfold parts
    split
    · intro h; cases h
    · split <;> (intro h; cases h)
def hexD (k : Nat) : Nat := if k < 10 then 48 + k else 87 + k
def hexS (n j : Nat) : List UInt8 := (List.range (j + 1)).map fun q => UInt8.ofNat (hexD (n / 16 ^ (j - q) % 16))
def hexJ (n : Nat) : Nat := if n < 16 then 0 else if n < 256 then 1 else if n < 4096 then 2 else 3
def hexU (n : Nat) : List UInt8 := hexS n (hexJ n)
end Go.Proofs.YtkabhnbjjnjdhaaDoor.Ad
end
section
set_option linter.unusedSimpArgs false
set_option linter.unusedVariables false
namespace Go.Proofs
open Go.Shelf
def Tryd.lays145_ren : Go.Shelf.Ren := ⟨fun | 145 => 27 | 217 => 71 | 219 => 55 | 220 => 42 | 224 => 73 | 225 => 72 | 266 => 87 | 267 => 74 | 314 => 88 | n => n, fun | 3 => 3 | 4 => 4 | 5 => 5 | 9 => 9 | 46 => 35 | 51 => 22 | 59 => 45 | 146 => 107 | n => n, fun | 1 => 0 | n => n⟩
theorem Tryd.lays145 : Go.Proofs.Lays.n145 Tryd.prog Tryd.lays145_ren := {
  mixed := by kernel_rfl
  f145 := Tryd.func27.trans (congrArg some (by kernel_rfl))
  f217 := Tryd.func71.trans (congrArg some (by kernel_rfl))
  f219 := Tryd.func55.trans (congrArg some (by kernel_rfl))
  f220 := Tryd.func42.trans (congrArg some (by kernel_rfl))
  f224 := Tryd.func73.trans (congrArg some (by kernel_rfl))
  f225 := Tryd.func72.trans (congrArg some (by kernel_rfl))
  f266 := Tryd.func87.trans (congrArg some (by kernel_rfl))
  f267 := Tryd.func74.trans (congrArg some (by kernel_rfl))
  f314 := Tryd.func88.trans (congrArg some (by kernel_rfl))
  t3 := Tryd.underlying3
  a3 := Tryd.isAgg3
  z3 := Tryd.sizeOf3
  v3 := Tryd.zeroValue3
  t4 := Tryd.underlying4
  a4 := Tryd.isAgg4
  z4 := Tryd.sizeOf4
  v4 := Tryd.zeroValue4
  t5 := Tryd.underlying5
  a5 := Tryd.isAgg5
  z5 := Tryd.sizeOf5
  v5 := Tryd.zeroValue5
  t9 := Tryd.underlying9
  a9 := Tryd.isAgg9
  z9 := Tryd.sizeOf9
  v9 := Tryd.zeroValue9
  t46 := Tryd.underlying35
  a46 := Tryd.isAgg35
  z46 := Tryd.sizeOf35
  v46 := Tryd.zeroValue35
  t51 := Tryd.underlying22
  a51 := Tryd.isAgg22
  z51 := Tryd.sizeOf22
  v51 := Tryd.zeroValue22
  t59 := Tryd.underlying45
  a59 := Tryd.isAgg45
  z59 := Tryd.sizeOf45
  v59 := Tryd.zeroValue45
  t146 := Tryd.underlying107
  a146 := Tryd.isAgg107
  z146 := Tryd.sizeOf107
  v146 := Tryd.zeroValue107
  g1 := by kernel_rfl }
end Go.Proofs
namespace Go.Proofs.YtkabhnbjjnjdhaaDoor.Q
open Go.RowKit Go.Proofs.YtkabhnbjjnjdhaaDoorW.PrintWords Go.Proofs.YtkabhnbjjnjdhaaDoorW.PrintLast Go.Proofs.YtkabhnbjjnjdhaaDoorW.PrintMore
def strings_Cut.f (a0 a1 : ByteArray) : Option (ByteArray × ByteArray × Bool) :=
  if a0.size < 4294967281 then some (⟨(Lib.cut a0.data.toList a1.data.toList).1.toArray⟩, ⟨(Lib.cut a0.data.toList a1.data.toList).2.1.toArray⟩, (Lib.cut a0.data.toList a1.data.toList).2.2) else none
theorem strings_Cut.calls (a0 a1 : ByteArray) (r1 r2 : ByteArray) (r3 : Bool) (w : World) (hT : UTabs w) (h : strings_Cut.f a0 a1 = some (r1, r2, r3)) :
    Calls Tryd.prog 27 #[.string a0, .string a1] w fun e w' => e = .returned (.tuple #[.string r1, .string r2, .bool r3]) ∧ Below w.heap.size w w' := by
  unfold strings_Cut.f at h
  split at h
  · rename_i hs
    cases h
    obtain ⟨m, hm⟩ : ∃ m, w.cell? ⟨0, 0, none⟩ = some (.int .i64 m) := by first | exact hT.1 | exact hT.2.1
    refine (Any.strings_Cut Tryd.lays145 a0 a1 m w hs hm).mono ?_
    rintro e w' ⟨he, n, rfl⟩
    exact ⟨he, pw_below_drewN (Below.refl _ _) n⟩
  · cases h
end Go.Proofs.YtkabhnbjjnjdhaaDoor.Q
end
