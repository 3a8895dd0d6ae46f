/- strings.Join at what print reads: the shelf's law, laid at this program. -/
import Derived.Shelf.Strings.BuilderX
import Derived.Shelf.Strings.OnBuilder
import Derived.Test.YtkabhnbjjnjdhaaDoorSQbase
set_option linter.unusedSimpArgs false
set_option linter.unusedVariables false
namespace Go.Proofs
open Go.Shelf Go.RowKit
def Tryd.lays156_ren : Go.Shelf.Ren := ⟨fun | 156 => 33 | 165 => 48 | 166 => 49 | 169 => 50 | 240 => 59 | 241 => 60 | 276 => 80 | 277 => 81 | n => n, fun | 0 => 0 | 3 => 3 | 4 => 4 | 5 => 5 | 9 => 9 | 20 => 20 | 31 => 40 | 37 => 69 | 70 => 68 | 72 => 71 | 75 => 60 | 76 => 73 | 80 => 75 | 127 => 83 | 164 => 97 | n => n, fun n => n⟩
theorem Tryd.lays156 : Go.Proofs.Lays.n156 Tryd.prog Tryd.lays156_ren := {
  mixed := by kernel_rfl
  f156 := Tryd.func33.trans (congrArg some (by kernel_rfl))
  f165 := Tryd.func48.trans (congrArg some (by kernel_rfl))
  f166 := Tryd.func49.trans (congrArg some (by kernel_rfl))
  f169 := Tryd.func50.trans (congrArg some (by kernel_rfl))
  f240 := Tryd.func59.trans (congrArg some (by kernel_rfl))
  f241 := Tryd.func60.trans (congrArg some (by kernel_rfl))
  f276 := Tryd.func80.trans (congrArg some (by kernel_rfl))
  f277 := Tryd.func81.trans (congrArg some (by kernel_rfl))
  t0 := Tryd.underlying0
  a0 := Tryd.isAgg0
  z0 := Tryd.sizeOf0
  v0 := Tryd.zeroValue0
  t3 := Tryd.underlying3
  a3 := Tryd.isAgg3
  z3 := Tryd.sizeOf3
  v3 := Tryd.zeroValue3
  t4 := Tryd.underlying4
  a4 := Tryd.isAgg4
  z4 := Tryd.sizeOf4
  v4 := Tryd.zeroValue4
  t9 := Tryd.underlying9
  a9 := Tryd.isAgg9
  z9 := Tryd.sizeOf9
  v9 := Tryd.zeroValue9
  t20 := Tryd.underlying20
  a20 := Tryd.isAgg20
  z20 := Tryd.sizeOf20
  v20 := Tryd.zeroValue20
  t31 := Tryd.underlying40
  a31 := Tryd.isAgg40
  z31 := Tryd.sizeOf40
  v31 := Tryd.zeroValue40
  t37 := Tryd.underlying69
  a37 := Tryd.isAgg69
  z37 := Tryd.sizeOf69
  v37 := Tryd.zeroValue69
  t70 := Tryd.underlying68
  a70 := Tryd.isAgg68
  z70 := Tryd.sizeOf68
  v70 := Tryd.zeroValue68
  t72 := Tryd.underlying71
  a72 := Tryd.isAgg71
  z72 := Tryd.sizeOf71
  v72 := Tryd.zeroValue71
  t75 := Tryd.underlying60
  a75 := Tryd.isAgg60
  z75 := Tryd.sizeOf60
  v75 := Tryd.zeroValue60
  t76 := Tryd.underlying73
  a76 := Tryd.isAgg73
  z76 := Tryd.sizeOf73
  v76 := Tryd.zeroValue73
  t127 := Tryd.underlying83
  a127 := Tryd.isAgg83
  z127 := Tryd.sizeOf83
  v127 := Tryd.zeroValue83
  t164 := Tryd.underlying97
  a164 := Tryd.isAgg97
  z164 := Tryd.sizeOf97
  v164 := Tryd.zeroValue97 }
theorem Tryd.extra156 : Builder.Extra Tryd.prog Tryd.lays156_ren where
  sizeBuilder := by kernel_rfl
  liesBuilder := by kernel_rfl
  t5 := Tryd.underlying5
  a5 := Tryd.isAgg5
  z5 := Tryd.sizeOf5
  v5 := Tryd.zeroValue5
  infoByte := by kernel_rfl
  cellsByte := by kernel_rfl
  sizeByte := by kernel_rfl
  neB5 := by decide
namespace YtkabhnbjjnjdhaaDoor.Q
open Go.Proofs.YtkabhnbjjnjdhaaDoorW.PrintWords Go.Proofs.YtkabhnbjjnjdhaaDoorW.PrintLast Go.Proofs.YtkabhnbjjnjdhaaDoorW.PrintMore
def joinB (xs : List ByteArray) (sep : ByteArray) : List UInt8 := Lib.join (xs.map (·.data.toList)) sep.data.toList
def strings_Join.f (l0_0 : List ByteArray) (a0_1 : ByteArray) : Option ByteArray :=
  if l0_0.length ≤ 140737488355328 ∧ (joinB l0_0 a0_1).length ≤ 140737488355328 then some ⟨(joinB l0_0 a0_1).toArray⟩ else none
theorem strings_Join.calls (A0_0 : Option Addr) (c0_0 : Nat) (l0_0 : List ByteArray) (a0_1 : ByteArray) (r : ByteArray) (w : World) (hr0_0 : Kd.C Kd.string w A0_0 l0_0.length l0_0) (hc0_0 : l0_0.length ≤ c0_0) (h : strings_Join.f l0_0 a0_1 = some r) :
    Calls Tryd.prog 33 #[.slice A0_0 l0_0.length c0_0, .string a0_1] w fun e w' => e = .returned (.string r) ∧ Below w.heap.size w w' := by
  unfold strings_Join.f at h
  split at h
  · rename_i hs
    obtain rfl := Option.some.inj h
    cases hl : l0_0 with
    | nil =>
      refine (Any.strings_Join_none Tryd.lays156 Tryd.extra156 A0_0 c0_0 a0_1 w).mono ?_
      rintro e w' ⟨rfl, rfl⟩
      exact ⟨rfl, Below.refl _ _⟩
    | cons x t =>
      rw [← hl]
      have hpos : 0 < l0_0.length := by rw [hl]; exact Nat.succ_pos _
      obtain ⟨ad, cs, hA, hcl, hK, hcc⟩ := Kd.C_get hr0_0 (⟨#[]⟩ : ByteArray) 0 (by omega) (by omega)
      have hcells : ∀ (j : Nat) y, l0_0[j]? = some y → w.cell? (ad.add j) = some (.string y) := by
        intro j y hj
        have hjl : j < l0_0.length := (List.getElem?_eq_some_iff.1 hj).1
        obtain ⟨ad', cs', hA', hcl', hK', hcc'⟩ := Kd.C_get hr0_0 (⟨#[]⟩ : ByteArray) (j : Int) (by omega) (by omega)
        obtain rfl : ad = ad' := Option.some.inj (hA.symm.trans hA')
        rw [Int.toNat_natCast] at hK' hcc'
        have hcs : cs' = [.string (l0_0.getD j ⟨#[]⟩)] := hK'
        subst hcs
        have := hcc' 0 _ rfl
        rw [show j * Kd.string.sz + 0 = j from by show j * 1 + 0 = j; omega, List.getD_eq_getElem?_getD, hj] at this
        exact this
      subst hA
      have h0 := hcells 0 x (by rw [hl]; rfl)
      obtain ⟨b, o, sp⟩ := ad
      have hsp : sp = none := by
        cases sp with
        | none => rfl
        | some q =>
          exfalso
          unfold World.cell? at h0
          split at h0
          · exact absurd h0 (by simp [Addr.add])
          · cases h0
      subst hsp
      have hb : b < w.heap.size := World.block_lt_of_cell? w _ h0
      have hc2 : ∀ (j : Nat) y, l0_0[j]? = some y → w.cell? ⟨b, o + j, none⟩ = some (.string y) := by
        intro j y hj
        have h9 := hcells j y hj
        simp only [Addr.add] at h9
        split at h9
        · rename_i e
          subst e
          exact h9
        · exact h9
      exact Any.strings_Join Tryd.lays156 Tryd.extra156 b o c0_0 l0_0 a0_1 w hc2 hb hs.1 hc0_0 hs.2
  · cases h
end YtkabhnbjjnjdhaaDoor.Q
end Go.Proofs
