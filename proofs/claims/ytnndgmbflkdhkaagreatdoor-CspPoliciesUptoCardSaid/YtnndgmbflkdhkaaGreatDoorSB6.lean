/- Plain words on bytes: the sets of percent-encoding, encoding, and what they need; no program in sight. -/
/- strings.IndexByte, in print's form. -/
/- csp.keywords: the eight words, where the library's table of spaces stands. -/
/- strings.Cut, in print's form. -/
/- A range over a function whose iterator keeps its state in one captured variable (block B0): a law for loops that run to their end. -/
/- Functions of the given program as plain Lean functions, each with the proof that the machine answers as it does; laid by a program of mine over the kit print. -/
import Derived.PlainAid
import Derived.Test.YtnndgmbflkdhkaaGreatDoorSB4
import Derived.Shelf.Small.Strs
import Derived.Shelf.Strings.Fields
import Derived.WalkKit
import Derived.Shelf.Strings.Cut
import Derived.RangeFuncNested
import Derived.RangeFuncBox
import Derived.RangeFuncLeaves
import Derived.OwnWalkIn
import Derived.TacticsInMore
import Derived.LoopNIn
import Derived.LoopIn
import Derived.Maps.AppendAt
section
set_option linter.unusedSimpArgs false
set_option linter.unusedVariables false
namespace Go.Proofs.YtnndgmbflkdhkaaGreatDoor.P1
theorem byte_at (s : ByteArray) (j : Nat) (h : j < s.size) : s.data.toList[j]? = some s[j] := by
  rw [List.getElem?_eq_getElem (by simpa using h)]; rfl
end Go.Proofs.YtnndgmbflkdhkaaGreatDoor.P1
end
section
set_option linter.unusedSimpArgs false
set_option linter.unusedVariables false
namespace Go.Proofs
open Go.Shelf
def Tryz.lays137_ren : Go.Shelf.Ren := ⟨fun | 137 => 98 | 217 => 110 | 266 => 118 | n => n, fun | 3 => 3 | 5 => 5 | 9 => 9 | n => n, fun n => n⟩
theorem Tryz.lays137 : Go.Proofs.Lays.n137 Tryz.prog Tryz.lays137_ren := {
  mixed := by kernel_rfl
  f137 := Tryz.func98.trans (congrArg some (by kernel_rfl))
  f217 := Tryz.func110.trans (congrArg some (by kernel_rfl))
  f266 := Tryz.func118.trans (congrArg some (by kernel_rfl))
  t3 := Tryz.underlying3
  a3 := Tryz.isAgg3
  z3 := Tryz.sizeOf3
  v3 := Tryz.zeroValue3
  t5 := Tryz.underlying5
  a5 := Tryz.isAgg5
  z5 := Tryz.sizeOf5
  v5 := Tryz.zeroValue5
  t9 := Tryz.underlying9
  a9 := Tryz.isAgg9
  z9 := Tryz.sizeOf9
  v9 := Tryz.zeroValue9 }
end Go.Proofs
namespace Go.Proofs.YtnndgmbflkdhkaaGreatDoor.Q
open Go.RowKit Go.Proofs.YtnndgmbflkdhkaaGreatDoorW.PrintWords Go.Proofs.YtnndgmbflkdhkaaGreatDoorW.PrintLast Go.Proofs.YtnndgmbflkdhkaaGreatDoorW.PrintMore
def strings_IndexByte.f (a0 : ByteArray) (a1 : Int) : Option Int := some (Lib.indexByte a0.data.toList a1.toNat.toUInt8)
theorem strings_IndexByte.calls (a0 : ByteArray) (a1 : Int) (r : Int) (w : World) (h : strings_IndexByte.f a0 a1 = some r) :
    Calls Tryz.prog 98 #[.string a0, .int .u8 a1] w fun e w' => e = .returned (.int .i64 r) ∧ Below w.heap.size w w' := by
  obtain rfl := Option.some.inj h
  refine (Any.strings_IndexByte Tryz.lays137 a0 a1 w).mono ?_
  rintro e w' ⟨he, rfl⟩
  exact ⟨he, Below.refl _ _⟩
end Go.Proofs.YtnndgmbflkdhkaaGreatDoor.Q
end
section
set_option linter.unusedSimpArgs false
set_option linter.unusedVariables false
namespace Go.Proofs
open Go.Shelf
def Tryz.lays157_ren : Go.Shelf.Ren := ⟨fun | 157 => 92 | 199 => 109 | 229 => 55 | 261 => 117 | 311 => 126 | 312 => 127 | n => n, fun | 0 => 0 | 3 => 3 | 4 => 4 | 5 => 5 | 9 => 9 | 21 => 21 | 31 => 33 | 40 => 82 | 46 => 129 | 49 => 149 | 51 => 135 | 119 => 127 | 141 => 137 | 152 => 108 | 154 => 110 | 193 => 145 | 194 => 146 | 196 => 148 | 198 => 151 | 201 => 154 | 226 => 160 | 227 => 161 | n => n, fun | 0 => 0 | 6 => 4 | n => n⟩
theorem Tryz.lays157 : Go.Proofs.Lays.n157 Tryz.prog Tryz.lays157_ren := {
  mixed := by kernel_rfl
  f157 := Tryz.func92.trans (congrArg some (by kernel_rfl))
  f199 := Tryz.func109.trans (congrArg some (by kernel_rfl))
  f229 := Tryz.func55.trans (congrArg some (by kernel_rfl))
  f261 := Tryz.func117.trans (congrArg some (by kernel_rfl))
  f311 := Tryz.func126.trans (congrArg some (by kernel_rfl))
  f312 := Tryz.func127.trans (congrArg some (by kernel_rfl))
  t0 := Tryz.underlying0
  a0 := Tryz.isAgg0
  z0 := Tryz.sizeOf0
  v0 := Tryz.zeroValue0
  t3 := Tryz.underlying3
  a3 := Tryz.isAgg3
  z3 := Tryz.sizeOf3
  v3 := Tryz.zeroValue3
  t4 := Tryz.underlying4
  a4 := Tryz.isAgg4
  z4 := Tryz.sizeOf4
  v4 := Tryz.zeroValue4
  t5 := Tryz.underlying5
  a5 := Tryz.isAgg5
  z5 := Tryz.sizeOf5
  v5 := Tryz.zeroValue5
  t9 := Tryz.underlying9
  a9 := Tryz.isAgg9
  z9 := Tryz.sizeOf9
  v9 := Tryz.zeroValue9
  t21 := Tryz.underlying21
  a21 := Tryz.isAgg21
  z21 := Tryz.sizeOf21
  v21 := Tryz.zeroValue21
  t31 := Tryz.underlying33
  a31 := Tryz.isAgg33
  z31 := Tryz.sizeOf33
  v31 := Tryz.zeroValue33
  t40 := Tryz.underlying82
  a40 := Tryz.isAgg82
  z40 := Tryz.sizeOf82
  v40 := Tryz.zeroValue82
  t46 := Tryz.underlying129
  a46 := Tryz.isAgg129
  z46 := Tryz.sizeOf129
  v46 := Tryz.zeroValue129
  t49 := Tryz.underlying149
  a49 := Tryz.isAgg149
  z49 := Tryz.sizeOf149
  v49 := Tryz.zeroValue149
  t51 := Tryz.underlying135
  a51 := Tryz.isAgg135
  z51 := Tryz.sizeOf135
  v51 := Tryz.zeroValue135
  t119 := Tryz.underlying127
  a119 := Tryz.isAgg127
  z119 := Tryz.sizeOf127
  t141 := Tryz.underlying137
  a141 := Tryz.isAgg137
  z141 := Tryz.sizeOf137
  v141 := Tryz.zeroValue137
  t152 := Tryz.underlying108
  a152 := Tryz.isAgg108
  z152 := Tryz.sizeOf108
  v152 := Tryz.zeroValue108
  t154 := Tryz.underlying110
  a154 := Tryz.isAgg110
  z154 := Tryz.sizeOf110
  v154 := Tryz.zeroValue110
  t193 := Tryz.underlying145
  a193 := Tryz.isAgg145
  z193 := Tryz.sizeOf145
  v193 := Tryz.zeroValue145
  t194 := Tryz.underlying146
  a194 := Tryz.isAgg146
  z194 := Tryz.sizeOf146
  v194 := Tryz.zeroValue146
  t196 := Tryz.underlying148
  a196 := Tryz.isAgg148
  z196 := Tryz.sizeOf148
  v196 := Tryz.zeroValue148
  t198 := Tryz.underlying151
  a198 := Tryz.isAgg151
  z198 := Tryz.sizeOf151
  v198 := Tryz.zeroValue151
  t201 := Tryz.underlying154
  a201 := Tryz.isAgg154
  z201 := Tryz.sizeOf154
  v201 := Tryz.zeroValue154
  t226 := Tryz.underlying160
  a226 := Tryz.isAgg160
  z226 := Tryz.sizeOf160
  v226 := Tryz.zeroValue160
  t227 := Tryz.underlying161
  a227 := Tryz.isAgg161
  z227 := Tryz.sizeOf161
  v227 := Tryz.zeroValue161
  g0 := by kernel_rfl
  g6 := by kernel_rfl }
end Go.Proofs
namespace Go.Proofs.YtnndgmbflkdhkaaGreatDoor.Q
open Go.RowKit Go.Proofs.YtnndgmbflkdhkaaGreatDoorW.PrintWords Go.Proofs.YtnndgmbflkdhkaaGreatDoorW.PrintLast Go.Proofs.YtnndgmbflkdhkaaGreatDoorW.PrintMore
def keyText : ByteArray := ⟨#[115, 101, 108, 102, 32, 110, 111, 110, 101, 32, 117, 110, 115, 97, 102, 101, 45, 105, 110, 108, 105, 110, 101, 32, 117, 110, 115, 97, 102, 101, 45, 101, 118, 97, 108, 32, 115, 116, 114, 105, 99, 116, 45, 100, 121, 110, 97, 109, 105, 99, 32, 117, 110, 115, 97, 102, 101, 45, 104, 97, 115, 104, 101, 115, 32, 114, 101, 112, 111, 114, 116, 45, 115, 97, 109, 112, 108, 101, 32, 119, 97, 115, 109, 45, 117, 110, 115, 97, 102, 101, 45, 101, 118, 97, 108]⟩
def keyWords : List ByteArray := [⟨#[115, 101, 108, 102]⟩, ⟨#[110, 111, 110, 101]⟩, ⟨#[117, 110, 115, 97, 102, 101, 45, 105, 110, 108, 105, 110, 101]⟩, ⟨#[117, 110, 115, 97, 102, 101, 45, 101, 118, 97, 108]⟩, ⟨#[115, 116, 114, 105, 99, 116, 45, 100, 121, 110, 97, 109, 105, 99]⟩, ⟨#[117, 110, 115, 97, 102, 101, 45, 104, 97, 115, 104, 101, 115]⟩, ⟨#[114, 101, 112, 111, 114, 116, 45, 115, 97, 109, 112, 108, 101]⟩, ⟨#[119, 97, 115, 109, 45, 117, 110, 115, 97, 102, 101, 45, 101, 118, 97, 108]⟩]
theorem key_fields : ((Lib.fields keyText.data.toList).map fun l => (⟨l.toArray⟩ : ByteArray)) = keyWords := by decide +kernel
theorem key_ascii : ∀ (j : Nat) b, keyText.data.toList[j]? = some b → b.toNat < 128 := by
  intro j b h
  have hall : (keyText.data.toList.all fun b => decide (b.toNat < 128)) = true := by decide +kernel
  exact of_decide_eq_true (List.all_eq_true.1 hall b (List.mem_of_getElem? h))
def csp_keywords.f : Option (List ByteArray) := some keyWords
theorem csp_keywords.calls (r : List ByteArray) (w : World) (hT : UTabs w) (h : csp_keywords.f = some r) :
    Calls Tryz.prog 66 #[] w fun e w' => ∃ v0_ : Value, e = .returned (v0_) ∧ Kd.R Kd.string 9 w' w.heap.size (fun _ => True) v0_ r ∧ Below w.heap.size w w' := by
  obtain rfl := Option.some.inj h
  have hc := Any.strings_Fields Tryz.lays157 (by kernel_rfl) (by kernel_rfl) keyText w (by decide +kernel) key_ascii hT.2.2.1
  have hl : (Lib.fields keyText.data.toList).length = 8 := by decide +kernel
  have hv : ((Lib.fields keyText.data.toList).map fun l => Value.string ⟨l.toArray⟩) = keyWords.map Value.string := by rw [← key_fields, List.map_map]; rfl
  rw [hl, hv] at hc
  go_enter Tryz.func66, Tryz.ntmps66
  go_wp2_with (go_at_call 92; refine hc.mono ?_; rintro e w' ⟨rfl, rfl⟩)
  go_ret
  refine ⟨_, rfl, ?_, (Below.refl _ _).alloc (Nat.le_refl _) _⟩
  refine Kd.R_of_own (enc := Value.string) ?_ (fun _ _ => trivial)
  exact World.ownsRow_lit (base := w.heap.size) (e := 9) (size := 1) w (keyWords.map Value.string).toArray 8 (Nat.le_refl _) (by unfold maxLen; decide) (by simp [keyWords])
end Go.Proofs.YtnndgmbflkdhkaaGreatDoor.Q
end
section
set_option linter.unusedSimpArgs false
set_option linter.unusedVariables false
namespace Go.Proofs
open Go.Shelf
def Tryz.lays145_ren : Go.Shelf.Ren := ⟨fun | 145 => 67 | 217 => 110 | 219 => 101 | 220 => 93 | 224 => 114 | 225 => 113 | 266 => 118 | 267 => 115 | 314 => 125 | n => n, fun | 3 => 3 | 4 => 4 | 5 => 5 | 9 => 9 | 46 => 129 | 51 => 135 | 59 => 98 | 146 => 143 | n => n, fun | 1 => 3 | n => n⟩
theorem Tryz.lays145 : Go.Proofs.Lays.n145 Tryz.prog Tryz.lays145_ren := {
  mixed := by kernel_rfl
  f145 := Tryz.func67.trans (congrArg some (by kernel_rfl))
  f217 := Tryz.func110.trans (congrArg some (by kernel_rfl))
  f219 := Tryz.func101.trans (congrArg some (by kernel_rfl))
  f220 := Tryz.func93.trans (congrArg some (by kernel_rfl))
  f224 := Tryz.func114.trans (congrArg some (by kernel_rfl))
  f225 := Tryz.func113.trans (congrArg some (by kernel_rfl))
  f266 := Tryz.func118.trans (congrArg some (by kernel_rfl))
  f267 := Tryz.func115.trans (congrArg some (by kernel_rfl))
  f314 := Tryz.func125.trans (congrArg some (by kernel_rfl))
  t3 := Tryz.underlying3
  a3 := Tryz.isAgg3
  z3 := Tryz.sizeOf3
  v3 := Tryz.zeroValue3
  t4 := Tryz.underlying4
  a4 := Tryz.isAgg4
  z4 := Tryz.sizeOf4
  v4 := Tryz.zeroValue4
  t5 := Tryz.underlying5
  a5 := Tryz.isAgg5
  z5 := Tryz.sizeOf5
  v5 := Tryz.zeroValue5
  t9 := Tryz.underlying9
  a9 := Tryz.isAgg9
  z9 := Tryz.sizeOf9
  v9 := Tryz.zeroValue9
  t46 := Tryz.underlying129
  a46 := Tryz.isAgg129
  z46 := Tryz.sizeOf129
  v46 := Tryz.zeroValue129
  t51 := Tryz.underlying135
  a51 := Tryz.isAgg135
  z51 := Tryz.sizeOf135
  v51 := Tryz.zeroValue135
  t59 := Tryz.underlying98
  a59 := Tryz.isAgg98
  z59 := Tryz.sizeOf98
  v59 := Tryz.zeroValue98
  t146 := Tryz.underlying143
  a146 := Tryz.isAgg143
  z146 := Tryz.sizeOf143
  v146 := Tryz.zeroValue143
  g1 := by kernel_rfl }
end Go.Proofs
namespace Go.Proofs.YtnndgmbflkdhkaaGreatDoor.Q
open Go.RowKit Go.Proofs.YtnndgmbflkdhkaaGreatDoorW.PrintWords Go.Proofs.YtnndgmbflkdhkaaGreatDoorW.PrintLast Go.Proofs.YtnndgmbflkdhkaaGreatDoorW.PrintMore
def strings_Cut.f (a0 a1 : ByteArray) : Option (ByteArray × ByteArray × Bool) :=
  if a0.size < 4294967281 then some (⟨(Lib.cut a0.data.toList a1.data.toList).1.toArray⟩, ⟨(Lib.cut a0.data.toList a1.data.toList).2.1.toArray⟩, (Lib.cut a0.data.toList a1.data.toList).2.2) else none
theorem strings_Cut.calls (a0 a1 : ByteArray) (r1 r2 : ByteArray) (r3 : Bool) (w : World) (hT : UTabs w) (h : strings_Cut.f a0 a1 = some (r1, r2, r3)) :
    Calls Tryz.prog 67 #[.string a0, .string a1] w fun e w' => e = .returned (.tuple #[.string r1, .string r2, .bool r3]) ∧ Below w.heap.size w w' := by
  unfold strings_Cut.f at h
  split at h
  · rename_i hs
    cases h
    obtain ⟨_, ⟨m, hm⟩, _⟩ := hT
    refine (Any.strings_Cut Tryz.lays145 a0 a1 m w hs hm).mono ?_
    rintro e w' ⟨he, n, rfl⟩
    exact ⟨he, pw_below_drewN (Below.refl _ _) n⟩
  · cases h
end Go.Proofs.YtnndgmbflkdhkaaGreatDoor.Q
end
section
set_option linter.unusedSimpArgs false
set_option linter.unusedVariables false
namespace Go.Proofs.YtnndgmbflkdhkaaGreatDoor.R
open Go.RowKit
variable {F : Fence} {n : Nat} {P : Program}
/-- What an invariant of the loop must abide: new blocks, a turn of the iterator's own variable, a turn of the loop's own book-keeping. -/
def Stable {α : Type} (B B0 : Nat) (T : TypeId) (I : List α → World → Prop) : Prop :=
  ∀ pre A C row, I pre A → A.grownBy C row → (∀ r, row = some r → (r = B0 ∧ ∃ x, Boxed C B0 T x) ∨ (B ≤ r ∧ ∃ o : Obj, A.heap[r]? = some o ∧ o.isCells = false)) → I pre C
end Go.Proofs.YtnndgmbflkdhkaaGreatDoor.R
end
section
namespace Go.Proofs.YtnndgmbflkdhkaaGreatDoor.Q
open Go.RowKit Go.Proofs.YtnndgmbflkdhkaaGreatDoorW.PrintWords Go.Proofs.YtnndgmbflkdhkaaGreatDoorW.PrintLast Go.Proofs.YtnndgmbflkdhkaaGreatDoorW.PrintMore
attribute [local go_sem] max2_int min2_int max_two min_two max_three min_three max_four min_four
set_option linter.unusedVariables false
set_option linter.unusedSimpArgs false
end Go.Proofs.YtnndgmbflkdhkaaGreatDoor.Q
end
