/- csp.blank, csp.words, csp.word: what they answer at every text. -/
import Derived.Test.YtnndgmbflkdhkaaGreatDoorSB4
import Derived.Test.YtnndgmbflkdhkaaGreatDoorSRunes
import Derived.Shelf.Strings.FieldsFuncGrows
import Derived.WalkKit
set_option linter.unusedSimpArgs false
set_option linter.unusedVariables false
namespace Go.Proofs
open Go.Shelf
def Tryz.lays229_ren : Go.Shelf.Ren := ⟨fun | 229 => 55 | n => n, fun | 0 => 0 | 3 => 3 | 4 => 4 | 9 => 9 | 21 => 21 | 31 => 33 | 40 => 82 | 152 => 108 | 154 => 110 | n => n, fun n => n⟩
theorem Tryz.lays229 : Go.Proofs.Lays.n229 Tryz.prog Tryz.lays229_ren := {
  mixed := by kernel_rfl
  f229 := Tryz.func55.trans (congrArg some (by kernel_rfl))
  t0 := Tryz.underlying0
  a0 := Tryz.isAgg0
  z0 := Tryz.sizeOf0
  v0 := Tryz.zeroValue0
  t3 := Tryz.underlying3
  a3 := Tryz.isAgg3
  z3 := Tryz.sizeOf3
  v3 := Tryz.zeroValue3
  t4 := Tryz.underlying4
  a4 := Tryz.isAgg4
  z4 := Tryz.sizeOf4
  v4 := Tryz.zeroValue4
  t9 := Tryz.underlying9
  a9 := Tryz.isAgg9
  z9 := Tryz.sizeOf9
  v9 := Tryz.zeroValue9
  t21 := Tryz.underlying21
  a21 := Tryz.isAgg21
  z21 := Tryz.sizeOf21
  v21 := Tryz.zeroValue21
  t31 := Tryz.underlying33
  a31 := Tryz.isAgg33
  z31 := Tryz.sizeOf33
  v31 := Tryz.zeroValue33
  t40 := Tryz.underlying82
  a40 := Tryz.isAgg82
  z40 := Tryz.sizeOf82
  v40 := Tryz.zeroValue82
  t152 := Tryz.underlying108
  a152 := Tryz.isAgg108
  z152 := Tryz.sizeOf108
  v152 := Tryz.zeroValue108
  t154 := Tryz.underlying110
  a154 := Tryz.isAgg110
  z154 := Tryz.sizeOf110
  v154 := Tryz.zeroValue110 }
def Tryz.lays150_ren : Go.Shelf.Ren := ⟨fun | 119 => 116 | 137 => 98 | 150 => 61 | 152 => 102 | 153 => 88 | 217 => 110 | 224 => 114 | 225 => 113 | 226 => 105 | 227 => 106 | 228 => 107 | 266 => 118 | n => n, fun | 0 => 0 | 3 => 3 | 4 => 4 | 5 => 5 | 9 => 9 | 21 => 21 | 46 => 129 | 116 => 124 | 117 => 125 | 124 => 134 | n => n, fun n => n⟩
theorem Tryz.lays150 : Go.Proofs.Lays.n150 Tryz.prog Tryz.lays150_ren := {
  mixed := by kernel_rfl
  f119 := Tryz.func116.trans (congrArg some (by kernel_rfl))
  f137 := Tryz.func98.trans (congrArg some (by kernel_rfl))
  f150 := Tryz.func61.trans (congrArg some (by kernel_rfl))
  f152 := Tryz.func102.trans (congrArg some (by kernel_rfl))
  f153 := Tryz.func88.trans (congrArg some (by kernel_rfl))
  f217 := Tryz.func110.trans (congrArg some (by kernel_rfl))
  f224 := Tryz.func114.trans (congrArg some (by kernel_rfl))
  f225 := Tryz.func113.trans (congrArg some (by kernel_rfl))
  f226 := Tryz.func105.trans (congrArg some (by kernel_rfl))
  f227 := Tryz.func106.trans (congrArg some (by kernel_rfl))
  f228 := Tryz.func107.trans (congrArg some (by kernel_rfl))
  f266 := Tryz.func118.trans (congrArg some (by kernel_rfl))
  t0 := Tryz.underlying0
  a0 := Tryz.isAgg0
  z0 := Tryz.sizeOf0
  v0 := Tryz.zeroValue0
  t3 := Tryz.underlying3
  a3 := Tryz.isAgg3
  z3 := Tryz.sizeOf3
  v3 := Tryz.zeroValue3
  t4 := Tryz.underlying4
  a4 := Tryz.isAgg4
  z4 := Tryz.sizeOf4
  v4 := Tryz.zeroValue4
  t5 := Tryz.underlying5
  a5 := Tryz.isAgg5
  z5 := Tryz.sizeOf5
  v5 := Tryz.zeroValue5
  t9 := Tryz.underlying9
  a9 := Tryz.isAgg9
  z9 := Tryz.sizeOf9
  v9 := Tryz.zeroValue9
  t21 := Tryz.underlying21
  a21 := Tryz.isAgg21
  z21 := Tryz.sizeOf21
  v21 := Tryz.zeroValue21
  t46 := Tryz.underlying129
  a46 := Tryz.isAgg129
  z46 := Tryz.sizeOf129
  v46 := Tryz.zeroValue129
  t116 := Tryz.underlying124
  a116 := Tryz.isAgg124
  z116 := Tryz.sizeOf124
  t117 := Tryz.underlying125
  a117 := Tryz.isAgg125
  z117 := Tryz.sizeOf125
  v117 := Tryz.zeroValue125
  t124 := Tryz.underlying134
  a124 := Tryz.isAgg134
  z124 := Tryz.sizeOf134
  v124 := Tryz.zeroValue134 }
def Tryz.lays151_ren : Go.Shelf.Ren := ⟨fun | 119 => 116 | 137 => 98 | 151 => 85 | 152 => 102 | 217 => 110 | 224 => 114 | 225 => 113 | 266 => 118 | n => n, fun | 0 => 0 | 3 => 3 | 4 => 4 | 5 => 5 | 9 => 9 | 21 => 21 | 46 => 129 | n => n, fun n => n⟩
theorem Tryz.lays151 : Go.Proofs.Lays.n151 Tryz.prog Tryz.lays151_ren := {
  mixed := by kernel_rfl
  f119 := Tryz.func116.trans (congrArg some (by kernel_rfl))
  f137 := Tryz.func98.trans (congrArg some (by kernel_rfl))
  f151 := Tryz.func85.trans (congrArg some (by kernel_rfl))
  f152 := Tryz.func102.trans (congrArg some (by kernel_rfl))
  f217 := Tryz.func110.trans (congrArg some (by kernel_rfl))
  f224 := Tryz.func114.trans (congrArg some (by kernel_rfl))
  f225 := Tryz.func113.trans (congrArg some (by kernel_rfl))
  f266 := Tryz.func118.trans (congrArg some (by kernel_rfl))
  t0 := Tryz.underlying0
  a0 := Tryz.isAgg0
  z0 := Tryz.sizeOf0
  v0 := Tryz.zeroValue0
  t3 := Tryz.underlying3
  a3 := Tryz.isAgg3
  z3 := Tryz.sizeOf3
  v3 := Tryz.zeroValue3
  t4 := Tryz.underlying4
  a4 := Tryz.isAgg4
  z4 := Tryz.sizeOf4
  v4 := Tryz.zeroValue4
  t5 := Tryz.underlying5
  a5 := Tryz.isAgg5
  z5 := Tryz.sizeOf5
  v5 := Tryz.zeroValue5
  t9 := Tryz.underlying9
  a9 := Tryz.isAgg9
  z9 := Tryz.sizeOf9
  v9 := Tryz.zeroValue9
  t21 := Tryz.underlying21
  a21 := Tryz.isAgg21
  z21 := Tryz.sizeOf21
  v21 := Tryz.zeroValue21
  t46 := Tryz.underlying129
  a46 := Tryz.isAgg129
  z46 := Tryz.sizeOf129
  v46 := Tryz.zeroValue129 }
end Go.Proofs
namespace Go.Proofs.YtnndgmbflkdhkaaGreatDoor.Q
open Go.RowKit Go.Proofs.YtnndgmbflkdhkaaGreatDoorW.PrintWords Go.Proofs.YtnndgmbflkdhkaaGreatDoorW.PrintLast Go.Proofs.YtnndgmbflkdhkaaGreatDoorW.PrintMore
def blanksB : ByteArray := ⟨#[9, 10, 12, 13, 32]⟩
def blankN (r : Nat) : Bool := decide (r < 128) && decide (0 ≤ Lib.indexByte blanksB.data.toList r.toUInt8)
theorem blanks_ascii : ∀ (j : Nat) b, blanksB.data.toList[j]? = some b → b.toNat < 128 := by
  intro j b h
  have : b ∈ blanksB.data.toList := List.mem_of_getElem? h
  simp [blanksB] at this
  rcases this with rfl | rfl | rfl | rfl | rfl <;> decide
theorem blank_calls (r : Nat) (w : World) : Calls Tryz.prog 56 #[.int .i32 r] w fun e w' => e = .returned (.bool (blankN r)) ∧ Below w.heap.size w w' := by
  go_enter Tryz.func56, Tryz.ntmps56
  go_wp2_with (go_at_call 85; refine (Any.strings_ContainsRune_any Tryz.lays151 blanksB r _ blanks_ascii).mono ?_; rintro e w' ⟨rfl, hw⟩)
  go_ret
  exact ⟨rfl, hw⟩
def csp_words.f (a0 : ByteArray) : Option (List ByteArray) := if a0.size ≤ 4294967296 then some (Lib.goFieldsP blankN a0) else none
theorem csp_words.calls (a0 : ByteArray) (r : List ByteArray) (w : World) (h : csp_words.f a0 = some r) :
    Calls Tryz.prog 32 #[.string a0] w fun e w' => ∃ v0_ : Value, e = .returned (v0_) ∧ Kd.R Kd.string 9 w' w.heap.size (fun _ => True) v0_ r ∧ Below w.heap.size w w' := by
  unfold csp_words.f at h
  split at h
  · rename_i hs
    obtain rfl := Option.some.inj h
    have hp : PredGrows Tryz.prog 56 #[] blankN w := fun W x _ _ => blank_calls x W
    have hc := Any.strings_FieldsFunc_grows Tryz.lays229 56 #[] (enters_of Tryz.func56 (by kernel_rfl) rfl) blankN a0 w hs hp (by kernel_rfl) (by kernel_rfl)
    go_enter Tryz.func32, Tryz.ntmps32
    go_wp2_with (go_at_call 55; refine hc.mono ?_; rintro e w' ⟨A, rfl, hA, ho, hw⟩)
    go_ret
    exact ⟨_, rfl, Kd.R_of_own ho (fun _ _ => trivial), hw⟩
  · cases h
def strings_ContainsAny.f (a0 a1 : ByteArray) : Option Bool :=
  if 2 ≤ a1.size ∧ a1.size ≤ 16 ∧ (a1.data.toList.all fun b => decide (b.toNat < 128)) = true ∧ a0.size < 4294967281 then some (Lib.containsAny a0.data.toList a1.data.toList) else none
theorem strings_ContainsAny.calls (a0 a1 : ByteArray) (r : Bool) (w : World) (h : strings_ContainsAny.f a0 a1 = some r) :
    Calls Tryz.prog 61 #[.string a0, .string a1] w fun e w' => e = .returned (.bool r) ∧ Below w.heap.size w w' := by
  unfold strings_ContainsAny.f at h
  split at h
  · rename_i hs
    obtain rfl := Option.some.inj h
    exact Any.strings_ContainsAny_U Tryz.lays150 (by intro w; kernel_rfl) (by kernel_rfl) a0 a1 w hs.1 hs.2.2.2 (by omega) (fun j b hb => of_decide_eq_true (List.all_eq_true.1 hs.2.2.1 b (List.mem_of_getElem? hb)))
  · cases h
end Go.Proofs.YtnndgmbflkdhkaaGreatDoor.Q
