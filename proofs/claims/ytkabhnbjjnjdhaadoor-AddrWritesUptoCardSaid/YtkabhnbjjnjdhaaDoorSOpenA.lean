/- An array of eight numbers opened. -/
import Derived.Test.YtkabhnbjjnjdhaaDoorSB4
import Derived.Test.YtkabhnbjjnjdhaaDoorSQbase
import Derived.OpenShut
set_option linter.unusedSimpArgs false
set_option linter.unusedVariables false
namespace Go.Proofs.YtkabhnbjjnjdhaaDoor.Q
open Go.RowKit Go.Proofs.YtkabhnbjjnjdhaaDoorW.PrintWords Go.Deep Go.ChangeShapes Go.WideShapes
abbrev Arr := S27
/-- eight numbers of sixteen bits -/
def inArr (x : Arr) : Prop := ∀ n ∈ [x.f0, x.f1, x.f2, x.f3, x.f4, x.f5, x.f6, x.f7], 0 ≤ n ∧ n < 65536
def kArr : Kd Arr where
  sz := k27.sz
  E := k27.E
  K := fun w x cs => k27.K w x cs ∧ inArr x
  M := fun w base ok x cs => k27.M w base ok x cs ∧ inArr x
  K_len := fun h => k27.K_len h.1
  K_one := fun h => k27.K_one h.1
  K_below := fun hb h => ⟨k27.K_below hb h.1, h.2⟩
  K_of_M := fun h => ⟨k27.K_of_M h.1, h.2⟩
  M_mono := fun hk h => ⟨k27.M_mono hk h.1, h.2⟩
  M_bound := fun h => ⟨k27.M_bound h.1, h.2⟩
  M_move := fun hm h => ⟨k27.M_move hm h.1, h.2⟩
  M_lower := fun hb h => ⟨k27.M_lower hb h.1, h.2⟩
theorem kArr_open {w : World} {x : Arr} {cs : List Value} (h : kArr.K w x cs) : cs = [.int .u16 x.f0, .int .u16 x.f1, .int .u16 x.f2, .int .u16 x.f3, .int .u16 x.f4, .int .u16 x.f5, .int .u16 x.f6, .int .u16 x.f7] ∧ inArr x := ⟨k27_open h.1, h.2⟩
def mArr (x : Arr) : Nat := 1
theorem okWide_arr {P : Program} {w : World} {r : Reach} {base n : Nat} {t e : TypeId} {v : Value} (ht : P.underlying t = some (.array n e)) (h : Value.okWide P w r base t v) : ∃ cs, v = .agg cs ∧ cs.size = P.cellsOf t := by
  simp only [Value.okWide, ht] at h
  obtain ⟨cs, h1, h2, _⟩ := h
  exact ⟨cs, h1, h2⟩
theorem wf16 {n : Int} (h : (Lit.int .u16 n).wf = true) : 0 ≤ n ∧ n < 65536 := by
  have : 0 ≤ n ∧ n ≤ 65535 := by simpa [Lit.wf, IntKind.min, IntKind.max, IntKind.signed, IntKind.bits] using h
  omega
section
variable {H : Type} {enc : TypeId × Value → H} {w : World} {base : Nat} {spare : Nat → Bool} {held : Bool}
theorem opens_arr : Opens enc Tryd.prog w base spare held kArr 27 mArr := by
  intro fuel cs x h
  obtain ⟨xs, m, _, rfl, hl, hxl, hx⟩ := DataW.trod_array Tryd.underlying27 h
  have hc1 : Tryd.prog.cellsOf 26 = 1 := by kernel_rfl
  have hc8 : Tryd.prog.cellsOf 27 = 8 := by kernel_rfl
  rw [hc8] at hl
  have key : ∀ i, i < 8 → ∃ n, cs[i]? = some (.int .u16 n) ∧ 0 ≤ n ∧ n < 65536 := by
    intro i hi
    have h1 := hx i hi
    rw [hc1, Nat.mul_one, List.getElem?_eq_getElem (by omega)] at h1
    obtain ⟨n, hn, _, hw⟩ := DataW.trod_int Tryd.underlying26 h1
    refine ⟨n, ?_, wf16 hw⟩
    have := congrArg (·[0]?) hn
    simpa [List.getElem?_take, List.getElem?_drop] using this
  obtain ⟨n0, e0, b0⟩ := key 0 (by omega)
  obtain ⟨n1, e1, b1⟩ := key 1 (by omega)
  obtain ⟨n2, e2, b2⟩ := key 2 (by omega)
  obtain ⟨n3, e3, b3⟩ := key 3 (by omega)
  obtain ⟨n4, e4, b4⟩ := key 4 (by omega)
  obtain ⟨n5, e5, b5⟩ := key 5 (by omega)
  obtain ⟨n6, e6, b6⟩ := key 6 (by omega)
  obtain ⟨n7, e7, b7⟩ := key 7 (by omega)
  refine ⟨⟨n0, n1, n2, n3, n4, n5, n6, n7⟩, ⟨?_, ?_⟩, bulk_one _⟩
  · have : cs = [.int .u16 n0, .int .u16 n1, .int .u16 n2, .int .u16 n3, .int .u16 n4, .int .u16 n5, .int .u16 n6, .int .u16 n7] := by
      apply List.ext_getElem?
      intro i
      by_cases hi : i < 8
      · have hc : i = 0 ∨ i = 1 ∨ i = 2 ∨ i = 3 ∨ i = 4 ∨ i = 5 ∨ i = 6 ∨ i = 7 := by omega
        rcases hc with rfl | rfl | rfl | rfl | rfl | rfl | rfl | rfl
        · exact e0
        · exact e1
        · exact e2
        · exact e3
        · exact e4
        · exact e5
        · exact e6
        · exact e7
      · rw [List.getElem?_eq_none (by omega), List.getElem?_eq_none (by simp; omega)]
    rw [this]
    exact k27_mk w _
  · intro n hn
    simp only [List.mem_cons, List.not_mem_nil, or_false] at hn
    rcases hn with rfl | rfl | rfl | rfl | rfl | rfl | rfl | rfl
    · exact b0
    · exact b1
    · exact b2
    · exact b3
    · exact b4
    · exact b5
    · exact b6
    · exact b7
end
end Go.Proofs.YtkabhnbjjnjdhaaDoor.Q
