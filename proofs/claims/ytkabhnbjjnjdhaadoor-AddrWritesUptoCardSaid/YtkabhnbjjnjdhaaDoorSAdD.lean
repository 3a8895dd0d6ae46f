/- Arrays of eight numbers, plain: their texts, and what is read. -/
import Derived.Test.YtkabhnbjjnjdhaaDoorSAdC
import Derived.Test.YtkabhnbjjnjdhaaDoorSOpenA
set_option linter.unusedSimpArgs false
set_option linter.unusedVariables false
namespace Go.Proofs.YtkabhnbjjnjdhaaDoor.Q
open Go.RowKit Go.Proofs.YtkabhnbjjnjdhaaDoorW.PrintWords Go.Proofs.YtkabhnbjjnjdhaaDoorW.PrintLast Go.Proofs.YtkabhnbjjnjdhaaDoorW.PrintMore Go.Proofs.YtkabhnbjjnjdhaaDoor.Ad
theorem wf32 {a : Int} (h : (Lit.int .u32 a).wf = true) : ∃ n : Nat, a = n ∧ n < 4294967296 := by
  have h2 : 0 ≤ a ∧ a ≤ 4294967295 := by simpa [Lit.wf, IntKind.min, IntKind.max, IntKind.signed, IntKind.bits] using h
  exact ⟨a.toNat, by omega, by omega⟩
theorem arr_nat {x : Arr} (hx : inArr x) : ∃ n0 n1 n2 n3 n4 n5 n6 n7 : Nat, x = ⟨(n0 : Int), (n1 : Int), (n2 : Int), (n3 : Int), (n4 : Int), (n5 : Int), (n6 : Int), (n7 : Int)⟩ ∧ ∀ q ∈ [n0, n1, n2, n3, n4, n5, n6, n7], q < 65536 := by
  obtain ⟨f0, f1, f2, f3, f4, f5, f6, f7⟩ := x
  obtain ⟨n0, rfl⟩ : ∃ n : Nat, f0 = n := ⟨f0.toNat, by have := hx f0 (by simp); omega⟩
  obtain ⟨n1, rfl⟩ : ∃ n : Nat, f1 = n := ⟨f1.toNat, by have := hx f1 (by simp); omega⟩
  obtain ⟨n2, rfl⟩ : ∃ n : Nat, f2 = n := ⟨f2.toNat, by have := hx f2 (by simp); omega⟩
  obtain ⟨n3, rfl⟩ : ∃ n : Nat, f3 = n := ⟨f3.toNat, by have := hx f3 (by simp); omega⟩
  obtain ⟨n4, rfl⟩ : ∃ n : Nat, f4 = n := ⟨f4.toNat, by have := hx f4 (by simp); omega⟩
  obtain ⟨n5, rfl⟩ : ∃ n : Nat, f5 = n := ⟨f5.toNat, by have := hx f5 (by simp); omega⟩
  obtain ⟨n6, rfl⟩ : ∃ n : Nat, f6 = n := ⟨f6.toNat, by have := hx f6 (by simp); omega⟩
  obtain ⟨n7, rfl⟩ : ∃ n : Nat, f7 = n := ⟨f7.toNat, by have := hx f7 (by simp); omega⟩
  refine ⟨n0, n1, n2, n3, n4, n5, n6, n7, rfl, fun q hq => ?_⟩
  have := hx (q : Int) (by
    simp only [List.mem_cons, List.not_mem_nil, or_false] at hq ⊢
    rcases hq with rfl | rfl | rfl | rfl | rfl | rfl | rfl | rfl <;> simp)
  omega
theorem txt6_f (n0 n1 n2 n3 n4 n5 n6 n7 : Nat) (h : ∀ q ∈ [n0, n1, n2, n3, n4, n5, n6, n7], q < 65536) : addr_TextV6.f (n0 : Int) (n1 : Int) (n2 : Int) (n3 : Int) (n4 : Int) (n5 : Int) (n6 : Int) (n7 : Int) = some (B (txt6 [n0, n1, n2, n3, n4, n5, n6, n7])) := by
  unfold addr_TextV6.f
  rw [if_pos]
  · rfl
  · intro q hq
    simp only [List.mem_cons, List.not_mem_nil, or_false] at hq
    simp only [List.mem_cons, List.not_mem_nil, or_false, forall_eq_or_imp, forall_eq] at h
    rcases hq with rfl | rfl | rfl | rfl | rfl | rfl | rfl | rfl <;> omega
end Go.Proofs.YtkabhnbjjnjdhaaDoor.Q
