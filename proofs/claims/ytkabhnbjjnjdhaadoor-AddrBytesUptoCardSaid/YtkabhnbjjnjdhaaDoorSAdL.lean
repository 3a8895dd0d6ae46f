/- Addresses as texts, plain: what is written is read as what it was; a full stop behind; forms of one address. -/
import Derived.Test.YtkabhnbjjnjdhaaDoorSAdP
set_option linter.unusedSimpArgs false
set_option linter.unusedVariables false
namespace Go.Proofs.YtkabhnbjjnjdhaaDoor.Ad
open Go
theorem join_two (x y : List UInt8) (r : List (List UInt8)) (sep : List UInt8) : Lib.join (x :: y :: r) sep = x ++ sep ++ Lib.join (y :: r) sep := by
  rw [Lib.join_cons, Lib.join_cons]
  unfold Lib.joinTail
  simp
theorem parts_free {c : UInt8} : ∀ {l : List UInt8}, c ∉ l → parts c l = [l]
  | [], _ => rfl
  | b :: r, h => by
    have hb : b ≠ c := fun e => h (by rw [e]; exact List.mem_cons_self)
    unfold parts
    rw [if_neg hb, parts_free (fun h' => h (List.mem_cons_of_mem _ h'))]
theorem parts_app {c : UInt8} : ∀ (l r : List UInt8), c ∉ l → parts c (l ++ c :: r) = l :: parts c r
  | [], r, _ => by
    show parts c (c :: r) = _
    conv => lhs; unfold parts
    rw [if_pos rfl]
  | b :: l, r, h => by
    have hb : b ≠ c := fun e => h (by rw [e]; exact List.mem_cons_self)
    show parts c (b :: (l ++ c :: r)) = _
    conv => lhs; unfold parts
    rw [if_neg hb, parts_app l r (fun h' => h (List.mem_cons_of_mem _ h'))]
theorem parts_join {c : UInt8} : ∀ {xs : List (List UInt8)}, xs ≠ [] → (∀ x ∈ xs, c ∉ x) → parts c (Lib.join xs [c]) = xs
  | [], h, _ => absurd rfl h
  | [x], _, h => by rw [Lib.join_one, parts_free (h x List.mem_cons_self)]
  | x :: y :: r, _, h => by
    rw [join_two, List.append_assoc]
    show parts c (x ++ c :: Lib.join (y :: r) [c]) = _
    rw [parts_app _ _ (h x List.mem_cons_self), parts_join (by simp) (fun z hz => h z (List.mem_cons_of_mem _ hz))]
theorem cutLast_snoc {ps : List (List UInt8)} {p : List UInt8} (h : p ≠ []) : cutLast (ps ++ [p]) = ps ++ [p] := by
  unfold cutLast
  rw [if_neg]
  rintro ⟨_, h2⟩
  rw [List.getLast?_concat] at h2
  exact h (Option.some.inj h2)
theorem partsD_ne (l : List UInt8) : partsD l ≠ [] := cutLast_ne (parts_ne 46 l)
theorem ends_last (l : List UInt8) : endsL l = ((numL ((partsD l).getLast (partsD_ne l))).isSome || (!((partsD l).getLast (partsD_ne l)).isEmpty && allD 10 ((partsD l).getLast (partsD_ne l)))) := rfl
theorem dec3_all : ∀ n : Fin 256, numL (dec3 n.val) = some n.val ∧ 46 ∉ dec3 n.val ∧ 58 ∉ dec3 n.val ∧ dec3 n.val ≠ [] ∧ (dec3 n.val).length ≤ 3 := by decide +kernel
theorem dec3_of {n : Nat} (h : n < 256) : numL (dec3 n) = some n ∧ 46 ∉ dec3 n ∧ 58 ∉ dec3 n ∧ dec3 n ≠ [] ∧ (dec3 n).length ≤ 3 := dec3_all ⟨n, h⟩
theorem txt4_eq (n : Nat) : txt4 n = dec3 (n / 16777216 % 256) ++ [46] ++ (dec3 (n / 65536 % 256) ++ [46] ++ (dec3 (n / 256 % 256) ++ [46] ++ dec3 (n % 256))) := by
  unfold txt4
  rw [join_two, join_two, join_two, Lib.join_one]
theorem txt4_len (n : Nat) : (txt4 n).length ≤ 15 := by
  have a := dec3_of (Nat.mod_lt (n / 16777216) (by decide : 0 < 256))
  have b := dec3_of (Nat.mod_lt (n / 65536) (by decide : 0 < 256))
  have c := dec3_of (Nat.mod_lt (n / 256) (by decide : 0 < 256))
  have d := dec3_of (Nat.mod_lt n (by decide : 0 < 256))
  rw [txt4_eq]
  simp only [List.length_append, List.length_singleton]
  omega
end Go.Proofs.YtkabhnbjjnjdhaaDoor.Ad
