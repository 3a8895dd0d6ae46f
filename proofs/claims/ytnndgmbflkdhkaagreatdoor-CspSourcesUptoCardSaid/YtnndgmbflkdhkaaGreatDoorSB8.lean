/- csp on lists of bytes: letters, spans, schemes, small letters. -/
/- strings.Contains, in print's form. -/
/- Functions of the given program as plain Lean functions, each with the proof that the machine answers as it does; laid by a program of mine over the kit print. -/
/- A Policy opened. -/
import Derived.Test.YtnndgmbflkdhkaaGreatDoorSPort
import Derived.Test.YtnndgmbflkdhkaaGreatDoorSB7
import Derived.Test.YtnndgmbflkdhkaaGreatDoorSQcsp1
import Derived.Test.YtnndgmbflkdhkaaGreatDoorSB4
import Derived.Lib.IndexAny
import Derived.Test.YtnndgmbflkdhkaaGreatDoorSQbase
import Derived.Shelf.Strings.Search3
section
set_option linter.unusedSimpArgs false
set_option linter.unusedVariables false
namespace Go.Proofs.YtnndgmbflkdhkaaGreatDoor.Q
open Go.RowKit Go.Proofs.YtnndgmbflkdhkaaGreatDoorW.PrintWords Go.Proofs.YtnndgmbflkdhkaaGreatDoorW.PrintLast Go.Proofs.YtnndgmbflkdhkaaGreatDoorW.PrintMore Go.Proofs.YtnndgmbflkdhkaaGreatDoor.P1
def isAl (c : UInt8) : Bool := (decide (97 ≤ c.toNat) && decide (c.toNat ≤ 122)) || (decide (65 ≤ c.toNat) && decide (c.toNat ≤ 90))
theorem letter_f (c : UInt8) : csp_letter.f (c.toNat : Int) = some (isAl c) := by
  have h : ∀ b : Fin 256, csp_letter.f (b.val : Int) = some (isAl b.val.toUInt8) := by decide +kernel
  have := h ⟨c.toNat, c.toNat_lt⟩
  simpa using this
def inSpan (more : List UInt8) (c : UInt8) : Bool := isAl c || dig c || more.contains c
def spanN (more l : List UInt8) : Nat := (l.takeWhile (inSpan more)).length
theorem spanN_le (more l : List UInt8) : spanN more l ≤ l.length := (List.takeWhile_prefix _).length_le
theorem spanN_cons (more : List UInt8) (c : UInt8) (l : List UInt8) : spanN more (c :: l) = if inSpan more c then spanN more l + 1 else 0 := by
  unfold spanN
  rw [List.takeWhile_cons]
  cases inSpan more c <;> simp
theorem idx_f (more : List UInt8) (c : UInt8) : strings_IndexByte.f (B more) (c.toNat : Int) = some (Lib.indexByte more c) := by
  unfold strings_IndexByte.f
  rw [B_data]; simp
theorem span_l0 (more l : List UInt8) (hl : l.length ≤ 140737488355328) : ∀ (d k i : Nat), l.length - i = d → d < k → i ≤ l.length →
    csp_span.l0 k (B l) (B more) (i : Int) = some (((i + spanN more (l.drop i) : Nat)) : Int) := by
  intro d
  induction d with
  | zero =>
    intro k i hd hk hi
    obtain ⟨k, rfl⟩ : ∃ m, k = m + 1 := ⟨k - 1, by omega⟩
    simp only [csp_span.l0]
    rw [if_neg (by rw [B_size]; omega), List.drop_of_length_le (by omega)]
    simp [spanN]
  | succ d ih =>
    intro k i hd hk hi
    obtain ⟨k, rfl⟩ : ∃ m, k = m + 1 := ⟨k - 1, by omega⟩
    have hlt : i < l.length := by omega
    simp only [csp_span.l0]
    rw [if_pos (by rw [B_size]; omega), if_pos (by omega)]
    have hb : bt (B l) (i : Int) = ((l[i]'hlt).toNat : Int) := by rw [B_bt]; simp [List.getD_eq_getElem?_getD, hlt]
    have hw : wrap64 ((i : Int) + 1) = ((i + 1 : Nat) : Int) := by rw [w64 (by omega) (by omega)]; omega
    have hi' := ih k (i + 1) (by omega) (by omega) (by omega)
    rw [hb, letter_f, digit_f, idx_f, hw, hi', List.drop_eq_getElem_cons hlt, spanN_cons]
    have hc := Lib.contains_iff_indexByte more (l[i]'hlt)
    simp only [Option.bind_some, inSpan]
    generalize l[i]'hlt = c at *
    by_cases h1 : isAl c = true
    · simp [h1]; omega
    · by_cases h2 : dig c = true
      · simp [h1, h2]; omega
      · by_cases h3 : 0 ≤ Lib.indexByte more c
        · rw [decide_eq_true h3] at hc
          have hm : c ∈ more := by simpa using hc
          simp [h1, h2, h3, hm]; omega
        · rw [decide_eq_false h3] at hc
          have hm : c ∉ more := by simpa using hc
          simp [h1, h2, h3, hm]
theorem span_f (more l : List UInt8) (hl : l.length ≤ 140737488355328) (k : Nat) (hk : l.length < k) : csp_span.f k (B l) (B more) = some ((spanN more l : Nat) : Int) := by
  have := span_l0 more l hl l.length k 0 (by omega) hk (by omega)
  unfold csp_span.f
  simpa using this
def schN : List UInt8 → Nat
  | [] => 0
  | c :: l => if isAl c then spanN [43, 45, 46] (c :: l) else 0
theorem schN_le (l : List UInt8) : schN l ≤ l.length := by
  cases l with
  | nil => simp [schN]
  | cons c l =>
    show (if isAl c then spanN [43, 45, 46] (c :: l) else 0) ≤ _
    split
    · exact spanN_le _ _
    · omega
theorem scheme_f (l : List UInt8) (hl : l.length ≤ 140737488355328) (k : Nat) (hk : l.length < k) : csp_scheme.f k (B l) = some ((schN l : Nat) : Int) := by
  unfold csp_scheme.f
  cases l with
  | nil => rw [if_pos (B_toList _)]; rfl
  | cons c l =>
    rw [if_neg (by rw [B_toList]; simp), if_pos (by rw [B_size]; simp)]
    have hb : bt (B (c :: l)) 0 = (c.toNat : Int) := by rw [B_bt]; simp
    rw [hb, letter_f]
    simp only [Option.bind_some, schN]
    cases isAl c with
    | true =>
      have := span_f [43, 45, 46] (c :: l) hl k hk
      rw [show (⟨#[43, 45, 46]⟩ : ByteArray) = B [43, 45, 46] from rfl, this]; simp
    | false => simp
def lowC (c : UInt8) : UInt8 := if 65 ≤ c.toNat ∧ c.toNat ≤ 90 then c + 32 else c
def low (l : List UInt8) : List UInt8 := l.map lowC
theorem turn_low (c : UInt8) : turnV 65 90 32 (c.toNat : Int) = ((lowC c).toNat : Int) := by
  have h : ∀ b : Fin 256, turnV 65 90 32 (b.val : Int) = ((lowC b.val.toUInt8).toNat : Int) := by decide +kernel
  have := h ⟨c.toNat, c.toNat_lt⟩
  simpa using this
theorem lower_f (l : List UInt8) (hl : l.length ≤ 281474976710656) : pct_Lower.f (B l) = some (B (low l)) := by
  unfold pct_Lower.f pct_turned.f
  rw [if_pos (by rw [B_size]; omega)]
  simp only [Option.bind_some]
  congr 1
  rw [B_data, ← strOf_ns]
  unfold turnL ns low
  rw [List.map_map]
  congr 1
  apply List.map_congr_left
  intro c _
  exact turn_low c
theorem low_length (l : List UInt8) : (low l).length = l.length := by simp [low]
end Go.Proofs.YtnndgmbflkdhkaaGreatDoor.Q
end
section
set_option linter.unusedSimpArgs false
set_option linter.unusedVariables false
namespace Go.Proofs
open Go.Shelf
def Tryz.lays144_ren : Go.Shelf.Ren := ⟨fun | 143 => 84 | 144 => 73 | 217 => 110 | 219 => 101 | 224 => 114 | 225 => 113 | 266 => 118 | 267 => 115 | 314 => 125 | n => n, fun | 3 => 3 | 4 => 4 | 5 => 5 | 9 => 9 | 46 => 129 | 51 => 135 | 146 => 143 | n => n, fun | 1 => 3 | n => n⟩
theorem Tryz.lays144 : Go.Proofs.Lays.n144 Tryz.prog Tryz.lays144_ren := {
  mixed := by kernel_rfl
  f143 := Tryz.func84.trans (congrArg some (by kernel_rfl))
  f144 := Tryz.func73.trans (congrArg some (by kernel_rfl))
  f217 := Tryz.func110.trans (congrArg some (by kernel_rfl))
  f219 := Tryz.func101.trans (congrArg some (by kernel_rfl))
  f224 := Tryz.func114.trans (congrArg some (by kernel_rfl))
  f225 := Tryz.func113.trans (congrArg some (by kernel_rfl))
  f266 := Tryz.func118.trans (congrArg some (by kernel_rfl))
  f267 := Tryz.func115.trans (congrArg some (by kernel_rfl))
  f314 := Tryz.func125.trans (congrArg some (by kernel_rfl))
  t3 := Tryz.underlying3
  a3 := Tryz.isAgg3
  z3 := Tryz.sizeOf3
  v3 := Tryz.zeroValue3
  t4 := Tryz.underlying4
  a4 := Tryz.isAgg4
  z4 := Tryz.sizeOf4
  v4 := Tryz.zeroValue4
  t5 := Tryz.underlying5
  a5 := Tryz.isAgg5
  z5 := Tryz.sizeOf5
  v5 := Tryz.zeroValue5
  t9 := Tryz.underlying9
  a9 := Tryz.isAgg9
  z9 := Tryz.sizeOf9
  v9 := Tryz.zeroValue9
  t46 := Tryz.underlying129
  a46 := Tryz.isAgg129
  z46 := Tryz.sizeOf129
  v46 := Tryz.zeroValue129
  t51 := Tryz.underlying135
  a51 := Tryz.isAgg135
  z51 := Tryz.sizeOf135
  v51 := Tryz.zeroValue135
  t146 := Tryz.underlying143
  a146 := Tryz.isAgg143
  z146 := Tryz.sizeOf143
  v146 := Tryz.zeroValue143
  g1 := by kernel_rfl }
end Go.Proofs
namespace Go.Proofs.YtnndgmbflkdhkaaGreatDoor.Q
open Go.RowKit Go.Proofs.YtnndgmbflkdhkaaGreatDoorW.PrintWords Go.Proofs.YtnndgmbflkdhkaaGreatDoorW.PrintLast Go.Proofs.YtnndgmbflkdhkaaGreatDoorW.PrintMore
def strings_Contains.f (a0 a1 : ByteArray) : Option Bool := if a0.size < 4294967281 then some (Lib.contains a0.data.toList a1.data.toList) else none
theorem strings_Contains.calls (a0 a1 : ByteArray) (r : Bool) (w : World) (hT : UTabs w) (h : strings_Contains.f a0 a1 = some r) :
    Calls Tryz.prog 73 #[.string a0, .string a1] w fun e w' => e = .returned (.bool r) ∧ Below w.heap.size w w' := by
  unfold strings_Contains.f at h
  split at h
  · rename_i hs
    cases h
    obtain ⟨_, ⟨m, hm⟩, _⟩ := hT
    refine (Any.strings_Contains Tryz.lays144 a0 a1 m w hs hm).mono ?_
    rintro e w' ⟨he, rfl⟩
    exact ⟨he, Below.refl _ _⟩
  · cases h
end Go.Proofs.YtnndgmbflkdhkaaGreatDoor.Q
end
section
namespace Go.Proofs.YtnndgmbflkdhkaaGreatDoor.Q
open Go.RowKit Go.Proofs.YtnndgmbflkdhkaaGreatDoorW.PrintWords Go.Proofs.YtnndgmbflkdhkaaGreatDoorW.PrintLast Go.Proofs.YtnndgmbflkdhkaaGreatDoorW.PrintMore
attribute [local go_sem] max2_int min2_int max_two min_two max_three min_three max_four min_four
set_option linter.unusedVariables false
set_option linter.unusedSimpArgs false
def bastionref14_digit.f (a0 : Int) : Option (Bool) := if a0 ≥ 48 then (some (decide (a0 ≤ 57))) else (some false)
set_option maxHeartbeats 8000000 in
set_option maxRecDepth 100000 in
theorem bastionref14_digit.calls (a0 : Int) (r : Bool) (w : World) (h : bastionref14_digit.f a0 = some r) :
  Calls Tryz.prog 79 #[.int .u8 a0] w fun e w' => e = .returned (.bool r) ∧ Drawn0 w w' := by
 have H : (if a0 ≥ 48 then (some (decide (a0 ≤ 57))) else (some false)) = some r := h
 clear h
 by_cases c2 : a0 ≥ 48
 ·rw [if_pos c2] at H
  have c2b0 : decide (48 ≤ a0) = true := decide_eq_true c2
  clear c2
  obtain rfl := Option.some.inj H
  go_enter Tryz.func79, Tryz.ntmps79
  go_wp2
  go_ret
  exact ⟨by first | rfl | (simp; done) | (simp [*]; done), by repeat (first | exact Drawn0.refl _ | apply Drawn0.step)⟩
 ·rw [if_neg c2] at H
  have c2b0 : decide (48 ≤ a0) = false := decide_eq_false c2
  clear c2
  obtain rfl := Option.some.inj H
  go_enter Tryz.func79, Tryz.ntmps79
  go_wp2
  go_ret
  exact ⟨by first | rfl | (simp; done) | (simp [*]; done), by repeat (first | exact Drawn0.refl _ | apply Drawn0.step)⟩
end Go.Proofs.YtnndgmbflkdhkaaGreatDoor.Q
end
section
set_option linter.unusedSimpArgs false
set_option linter.unusedVariables false
namespace Go.Proofs.YtnndgmbflkdhkaaGreatDoor.Q
open Go.RowKit Go.Proofs.YtnndgmbflkdhkaaGreatDoorW.PrintWords Go.Deep Go.ChangeShapes Go.WideShapes
def mStr (s : ByteArray) : Nat := s.size + 1
def mStrs (l : List ByteArray) : Nat := (l.map mStr).sum + 1
section
variable {H : Type} {enc : TypeId × Value → H} {w : World} {base : Nat} {spare : Nat → Bool} {held : Bool}
theorem opens_strs : Opens enc Tryz.prog w base spare held (Kd.slice 9 Kd.string) 33 mStrs := opens_slice Tryz.underlying33 (by kernel_rfl) (opens_string Tryz.underlying9)
end
end Go.Proofs.YtnndgmbflkdhkaaGreatDoor.Q
end
