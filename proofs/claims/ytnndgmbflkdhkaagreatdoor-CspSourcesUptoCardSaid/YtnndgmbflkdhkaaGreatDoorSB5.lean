/- csp.hosted in print's form. -/
/- Functions of the given program as plain Lean functions, each with the proof that the machine answers as it does; laid by a program of mine over the kit print. -/
/- strings.Join at what print reads: the shelf's law, laid at this program. -/
import Derived.Test.YtnndgmbflkdhkaaGreatDoorSHost
import Derived.Test.YtnndgmbflkdhkaaGreatDoorSQbase
import Derived.Shelf.Strings.BuilderX
import Derived.Shelf.Strings.OnBuilder
section
set_option linter.unusedSimpArgs false
set_option linter.unusedVariables false
namespace Go.Proofs.YtnndgmbflkdhkaaGreatDoor.Q
open Go.RowKit Go.Proofs.YtnndgmbflkdhkaaGreatDoorW.PrintWords Go.Proofs.YtnndgmbflkdhkaaGreatDoorW.PrintLast Go.Proofs.YtnndgmbflkdhkaaGreatDoorW.PrintMore Go.Proofs.YtnndgmbflkdhkaaGreatDoor.P1
def csp_hosted.f (a0 : ByteArray) : Option (Int × ByteArray × ByteArray × Bool × Int × Bool × Bool × ByteArray × Bool) :=
  if a0.size ≤ 1048576 then some (5, B (hostF a0.data.toList).1, B (hostF a0.data.toList).2.1, (hostF a0.data.toList).2.2.1, (hostF a0.data.toList).2.2.2.1, (hostF a0.data.toList).2.2.2.2.1, (hostF a0.data.toList).2.2.2.2.2.1, B (hostF a0.data.toList).2.2.2.2.2.2.1, (hostF a0.data.toList).2.2.2.2.2.2.2) else none
theorem csp_hosted.calls (a0 : ByteArray) (r1 : Int) (r2 : ByteArray) (r3 : ByteArray) (r4 : Bool) (r5 : Int) (r6 : Bool) (r7 : Bool) (r8 : ByteArray) (r9 : Bool) (w : World) (hT : UTabs w) (h : csp_hosted.f a0 = some (r1, r2, r3, r4, r5, r6, r7, r8, r9)) :
    Calls Tryz.prog 42 #[.string a0] w fun e w' => e = .returned (.tuple #[.agg #[.int .u8 r1, .string r2, .string r3, .bool r4, .int .i64 r5, .bool r6, .bool r7, .string r8], .bool r9]) ∧ Below w.heap.size w w' := by
  unfold csp_hosted.f at h
  split at h
  · rename_i hs
    have h2 := Option.some.inj h
    simp only [Prod.mk.injEq] at h2
    obtain ⟨rfl, rfl, rfl, rfl, rfl, rfl, rfl, rfl, rfl⟩ := h2
    have := hosted_any a0.data.toList (by rw [Array.length_toList]; exact hs) w hT
    exact this
  · cases h
end Go.Proofs.YtnndgmbflkdhkaaGreatDoor.Q
end
section
namespace Go.Proofs.YtnndgmbflkdhkaaGreatDoor.Q
open Go.RowKit Go.Proofs.YtnndgmbflkdhkaaGreatDoorW.PrintWords Go.Proofs.YtnndgmbflkdhkaaGreatDoorW.PrintLast Go.Proofs.YtnndgmbflkdhkaaGreatDoorW.PrintMore
attribute [local go_sem] max2_int min2_int max_two min_two max_three min_three max_four min_four
set_option linter.unusedVariables false
set_option linter.unusedSimpArgs false
theorem eqA40 (d : Nat) (w : World) (x0 y0 : Int) (x1 y1 : ByteArray) (x2 y2 : ByteArray) (x3 y3 : Bool) (x4 y4 : Int) (x5 y5 : Bool) (x6 y6 : Bool) (x7 y7 : ByteArray) :
    (Op.equalIn (d + 2) 40 (.agg #[.int .u8 x0, .string x1, .string x2, .bool x3, .int .i64 x4, .bool x5, .bool x6, .string x7]) (.agg #[.int .u8 y0, .string y1, .string y2, .bool y3, .int .i64 y4, .bool y5, .bool y6, .string y7])).run Tryz.prog w = .ok (x0 == y0 && (x1.toList == y1.toList && (x2.toList == y2.toList && (x3 == y3 && (x4 == y4 && (x5 == y5 && (x6 == y6 && (x7.toList == y7.toList)))))))) w := by
  refine eqA_of Tryz.underlying40 (by kernel_rfl) ?_
  refine eqf_cons (by rfl) (by go_simp; rfl) (by go_simp; rfl) (by go_simp) ?_
  refine eqf_cons (by rfl) (by go_simp; rfl) (by go_simp; rfl) (by go_simp) ?_
  refine eqf_cons (by rfl) (by go_simp; rfl) (by go_simp; rfl) (by go_simp) ?_
  refine eqf_cons (by rfl) (by go_simp; rfl) (by go_simp; rfl) (by go_simp) ?_
  refine eqf_cons (by rfl) (by go_simp; rfl) (by go_simp; rfl) (by go_simp) ?_
  refine eqf_cons (by rfl) (by go_simp; rfl) (by go_simp; rfl) (by go_simp) ?_
  refine eqf_cons (by rfl) (by go_simp; rfl) (by go_simp; rfl) (by go_simp) ?_
  exact eqf_last (by rfl) (by go_simp; rfl) (by go_simp; rfl) (by go_simp)
end Go.Proofs.YtnndgmbflkdhkaaGreatDoor.Q
end
section
set_option linter.unusedSimpArgs false
set_option linter.unusedVariables false
namespace Go.Proofs
open Go.Shelf Go.RowKit
def Tryz.lays156_ren : Go.Shelf.Ren := ⟨fun | 156 => 36 | 165 => 58 | 166 => 59 | 169 => 60 | 240 => 86 | 241 => 87 | 276 => 103 | 277 => 104 | n => n, fun | 0 => 0 | 3 => 3 | 4 => 4 | 5 => 5 | 9 => 9 | 20 => 20 | 31 => 33 | 37 => 84 | 70 => 83 | 72 => 86 | 75 => 89 | 76 => 90 | 80 => 92 | 127 => 112 | 164 => 119 | n => n, fun n => n⟩
theorem Tryz.lays156 : Go.Proofs.Lays.n156 Tryz.prog Tryz.lays156_ren := {
  mixed := by kernel_rfl
  f156 := Tryz.func36.trans (congrArg some (by kernel_rfl))
  f165 := Tryz.func58.trans (congrArg some (by kernel_rfl))
  f166 := Tryz.func59.trans (congrArg some (by kernel_rfl))
  f169 := Tryz.func60.trans (congrArg some (by kernel_rfl))
  f240 := Tryz.func86.trans (congrArg some (by kernel_rfl))
  f241 := Tryz.func87.trans (congrArg some (by kernel_rfl))
  f276 := Tryz.func103.trans (congrArg some (by kernel_rfl))
  f277 := Tryz.func104.trans (congrArg some (by kernel_rfl))
  t0 := Tryz.underlying0
  a0 := Tryz.isAgg0
  z0 := Tryz.sizeOf0
  v0 := Tryz.zeroValue0
  t3 := Tryz.underlying3
  a3 := Tryz.isAgg3
  z3 := Tryz.sizeOf3
  v3 := Tryz.zeroValue3
  t4 := Tryz.underlying4
  a4 := Tryz.isAgg4
  z4 := Tryz.sizeOf4
  v4 := Tryz.zeroValue4
  t9 := Tryz.underlying9
  a9 := Tryz.isAgg9
  z9 := Tryz.sizeOf9
  v9 := Tryz.zeroValue9
  t20 := Tryz.underlying20
  a20 := Tryz.isAgg20
  z20 := Tryz.sizeOf20
  v20 := Tryz.zeroValue20
  t31 := Tryz.underlying33
  a31 := Tryz.isAgg33
  z31 := Tryz.sizeOf33
  v31 := Tryz.zeroValue33
  t37 := Tryz.underlying84
  a37 := Tryz.isAgg84
  z37 := Tryz.sizeOf84
  v37 := Tryz.zeroValue84
  t70 := Tryz.underlying83
  a70 := Tryz.isAgg83
  z70 := Tryz.sizeOf83
  v70 := Tryz.zeroValue83
  t72 := Tryz.underlying86
  a72 := Tryz.isAgg86
  z72 := Tryz.sizeOf86
  v72 := Tryz.zeroValue86
  t75 := Tryz.underlying89
  a75 := Tryz.isAgg89
  z75 := Tryz.sizeOf89
  v75 := Tryz.zeroValue89
  t76 := Tryz.underlying90
  a76 := Tryz.isAgg90
  z76 := Tryz.sizeOf90
  v76 := Tryz.zeroValue90
  t127 := Tryz.underlying112
  a127 := Tryz.isAgg112
  z127 := Tryz.sizeOf112
  v127 := Tryz.zeroValue112
  t164 := Tryz.underlying119
  a164 := Tryz.isAgg119
  z164 := Tryz.sizeOf119
  v164 := Tryz.zeroValue119 }
theorem Tryz.extra156 : Builder.Extra Tryz.prog Tryz.lays156_ren where
  sizeBuilder := by kernel_rfl
  liesBuilder := by kernel_rfl
  t5 := Tryz.underlying5
  a5 := Tryz.isAgg5
  z5 := Tryz.sizeOf5
  v5 := Tryz.zeroValue5
  infoByte := by kernel_rfl
  cellsByte := by kernel_rfl
  sizeByte := by kernel_rfl
  neB5 := by decide
namespace YtnndgmbflkdhkaaGreatDoor.Q
open Go.Proofs.YtnndgmbflkdhkaaGreatDoorW.PrintWords Go.Proofs.YtnndgmbflkdhkaaGreatDoorW.PrintLast Go.Proofs.YtnndgmbflkdhkaaGreatDoorW.PrintMore
def joinB (xs : List ByteArray) (sep : ByteArray) : List UInt8 := Lib.join (xs.map (·.data.toList)) sep.data.toList
def strings_Join.f (l0_0 : List ByteArray) (a0_1 : ByteArray) : Option ByteArray :=
  if l0_0.length ≤ 140737488355328 ∧ (joinB l0_0 a0_1).length ≤ 140737488355328 then some ⟨(joinB l0_0 a0_1).toArray⟩ else none
theorem strings_Join.calls (A0_0 : Option Addr) (c0_0 : Nat) (l0_0 : List ByteArray) (a0_1 : ByteArray) (r : ByteArray) (w : World) (hr0_0 : Kd.C Kd.string w A0_0 l0_0.length l0_0) (hc0_0 : l0_0.length ≤ c0_0) (h : strings_Join.f l0_0 a0_1 = some r) :
    Calls Tryz.prog 36 #[.slice A0_0 l0_0.length c0_0, .string a0_1] w fun e w' => e = .returned (.string r) ∧ Below w.heap.size w w' := by
  unfold strings_Join.f at h
  split at h
  · rename_i hs
    obtain rfl := Option.some.inj h
    cases hl : l0_0 with
    | nil =>
      refine (Any.strings_Join_none Tryz.lays156 Tryz.extra156 A0_0 c0_0 a0_1 w).mono ?_
      rintro e w' ⟨rfl, rfl⟩
      exact ⟨rfl, Below.refl _ _⟩
    | cons x t =>
      rw [← hl]
      have hpos : 0 < l0_0.length := by rw [hl]; exact Nat.succ_pos _
      obtain ⟨ad, cs, hA, hcl, hK, hcc⟩ := Kd.C_get hr0_0 (⟨#[]⟩ : ByteArray) 0 (by omega) (by omega)
      have hcells : ∀ (j : Nat) y, l0_0[j]? = some y → w.cell? (ad.add j) = some (.string y) := by
        intro j y hj
        have hjl : j < l0_0.length := (List.getElem?_eq_some_iff.1 hj).1
        obtain ⟨ad', cs', hA', hcl', hK', hcc'⟩ := Kd.C_get hr0_0 (⟨#[]⟩ : ByteArray) (j : Int) (by omega) (by omega)
        obtain rfl : ad = ad' := Option.some.inj (hA.symm.trans hA')
        rw [Int.toNat_natCast] at hK' hcc'
        have hcs : cs' = [.string (l0_0.getD j ⟨#[]⟩)] := hK'
        subst hcs
        have := hcc' 0 _ rfl
        rw [show j * Kd.string.sz + 0 = j from by show j * 1 + 0 = j; omega, List.getD_eq_getElem?_getD, hj] at this
        exact this
      subst hA
      have h0 := hcells 0 x (by rw [hl]; rfl)
      obtain ⟨b, o, sp⟩ := ad
      have hsp : sp = none := by
        cases sp with
        | none => rfl
        | some q =>
          exfalso
          unfold World.cell? at h0
          split at h0
          · exact absurd h0 (by simp [Addr.add])
          · cases h0
      subst hsp
      have hb : b < w.heap.size := World.block_lt_of_cell? w _ h0
      have hc2 : ∀ (j : Nat) y, l0_0[j]? = some y → w.cell? ⟨b, o + j, none⟩ = some (.string y) := by
        intro j y hj
        have h9 := hcells j y hj
        simp only [Addr.add] at h9
        split at h9
        · rename_i e
          subst e
          exact h9
        · exact h9
      exact Any.strings_Join Tryz.lays156 Tryz.extra156 b o c0_0 l0_0 a0_1 w hc2 hb hs.1 hc0_0 hs.2
  · cases h
end YtnndgmbflkdhkaaGreatDoor.Q
end Go.Proofs
end
