/- Addresses of eight pieces, plain: what is written is read as what it was; what is read is eight small numbers. -/
import Derived.Test.YtkabhnbjjnjdhaaDoorSB4
set_option linter.unusedSimpArgs false
set_option linter.unusedVariables false
namespace Go.Proofs.YtkabhnbjjnjdhaaDoor.Ad
open Go
theorem hexD_all : ∀ k : Fin 16, dgN (UInt8.ofNat (hexD k.val)) = k.val ∧ ((48 ≤ hexD k.val ∧ hexD k.val ≤ 57) ∨ (97 ≤ hexD k.val ∧ hexD k.val ≤ 102)) := by decide +kernel
theorem hexD_of {k : Nat} (h : k < 16) : dgN (UInt8.ofNat (hexD k)) = k ∧ ((48 ≤ hexD k ∧ hexD k ≤ 57) ∨ (97 ≤ hexD k ∧ hexD k ≤ 102)) := hexD_all ⟨k, h⟩
def okC (c : UInt8) : Prop := (48 ≤ c.toNat ∧ c.toNat ≤ 57) ∨ (97 ≤ c.toNat ∧ c.toNat ≤ 102)
theorem okC_of {k : Nat} (h : k < 16) : okC (UInt8.ofNat (hexD k)) := by
  have := (hexD_of h).2
  unfold okC
  rw [UInt8.toNat_ofNat_of_lt' (by show _ < 256; omega)]
  exact this
theorem hexU_ok {n : Nat} {c : UInt8} (h : c ∈ hexU n) : okC c := by
  unfold hexU hexS at h
  obtain ⟨q, _, rfl⟩ := List.mem_map.1 h
  exact okC_of (Nat.mod_lt _ (by decide))
theorem okC_no {c : UInt8} (h : okC c) : c ≠ 58 ∧ c ≠ 46 := by
  unfold okC at h
  constructor
  · rintro rfl; revert h; decide
  · rintro rfl; revert h; decide
theorem hexU_len (n : Nat) : 0 < (hexU n).length ∧ (hexU n).length ≤ 4 := by
  unfold hexU hexS hexJ
  rw [List.length_map, List.length_range]
  split
  · omega
  · split
    · omega
    · split <;> omega
theorem hexJoin_ne {xs : List Nat} (h : xs ≠ []) : hexJoin xs ≠ [] := by
  cases xs with
  | nil => exact absurd rfl h
  | cons x r =>
    unfold hexJoin
    rw [List.map_cons, Lib.join_cons]
    intro e
    have := congrArg List.length e
    have hl := hexU_len x
    rw [List.length_append, List.length_nil] at this
    omega
theorem gap_run : ∀ b0 b1 b2 b3 b4 b5 b6 b7 : Bool, (gapB [b0, b1, b2, b3, b4, b5, b6, b7]).2 = 0 ∨ ((gapB [b0, b1, b2, b3, b4, b5, b6, b7]).1 + 2 ≤ (gapB [b0, b1, b2, b3, b4, b5, b6, b7]).2 ∧ (gapB [b0, b1, b2, b3, b4, b5, b6, b7]).2 ≤ 8 ∧ (([b0, b1, b2, b3, b4, b5, b6, b7].drop (gapB [b0, b1, b2, b3, b4, b5, b6, b7]).1).take ((gapB [b0, b1, b2, b3, b4, b5, b6, b7]).2 - (gapB [b0, b1, b2, b3, b4, b5, b6, b7]).1)).all id = true) := by decide +kernel
theorem gap_of (bs : List Bool) (h : bs.length = 8) : (gapB bs).2 = 0 ∨ ((gapB bs).1 + 2 ≤ (gapB bs).2 ∧ (gapB bs).2 ≤ 8 ∧ ((bs.drop (gapB bs).1).take ((gapB bs).2 - (gapB bs).1)).all id = true) := by
  match bs, h with
  | [b0, b1, b2, b3, b4, b5, b6, b7], _ => exact gap_run b0 b1 b2 b3 b4 b5 b6 b7
theorem join_len (sep : List UInt8) (hs : sep.length ≤ 1) : ∀ r : List (List UInt8), (∀ x ∈ r, x.length ≤ 4) → (Lib.joinTail sep r).length ≤ 5 * r.length := by
  intro r
  unfold Lib.joinTail
  induction r with
  | nil => intro _; simp
  | cons y q ih =>
    intro hq
    have := ih (fun z hz => hq z (List.mem_cons_of_mem _ hz))
    have hy := hq y List.mem_cons_self
    rw [List.map_cons, List.flatten_cons, List.length_append, List.length_append, List.length_cons]
    omega
theorem hexJoin_len (xs : List Nat) : (hexJoin xs).length ≤ 5 * xs.length - 1 := by
  cases xs with
  | nil => simp [hexJoin, Lib.join_nil]
  | cons x r =>
    unfold hexJoin
    rw [List.map_cons, Lib.join_cons, List.length_append]
    have h1 := (hexU_len x).2
    have h2 := join_len [58] (by simp) (r.map hexU) (fun z hz => by obtain ⟨n, _, rfl⟩ := List.mem_map.1 hz; exact (hexU_len n).2)
    rw [List.length_map] at h2
    rw [List.length_cons]
    omega
theorem valF_lt {b : Nat} (hb : 0 < b) : ∀ (l : List UInt8) (acc : Nat), allD b l = true → valF b acc l < (acc + 1) * b ^ l.length
  | [], acc, _ => by unfold valF; simp
  | c :: r, acc, h => by
    unfold allD at h
    rw [List.all_cons, Bool.and_eq_true] at h
    have h1 := of_decide_eq_true h.1
    have ih := valF_lt hb r (acc * b + dgN c) h.2
    unfold valF
    refine Nat.lt_of_lt_of_le ih ?_
    rw [List.length_cons, Nat.pow_succ, Nat.mul_comm (b ^ r.length) b, ← Nat.mul_assoc]
    refine Nat.mul_le_mul_right _ ?_
    rw [Nat.add_mul]
    omega
end Go.Proofs.YtkabhnbjjnjdhaaDoor.Ad
