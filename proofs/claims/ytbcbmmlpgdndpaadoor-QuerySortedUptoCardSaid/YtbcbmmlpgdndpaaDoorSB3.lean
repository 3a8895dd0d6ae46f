/- Plain words on bytes: the sets of percent-encoding, encoding, and what they need; no program in sight. -/
/- What the stable order keeps, plain: an ordered list; those of one key. -/
/- strings.ReplaceAll, in print's form. -/
import Derived.PlainAid
import Derived.Test.YtbcbmmlpgdndpaaDoorSB6
import Derived.Test.YtbcbmmlpgdndpaaDoorSB4
import Derived.Shelf.Strings.Replace
import Derived.Shelf.Strings.BuilderX
section
set_option linter.unusedSimpArgs false
set_option linter.unusedVariables false
namespace Go.Proofs.YtbcbmmlpgdndpaaDoor.P1
/-- The sets. -/
def ctl (b : Int) : Bool := decide (b < 32) || decide (126 < b)
def qry (b : Int) : Bool := ctl b || [32, 34, 35, 60, 62].contains b
def pth (b : Int) : Bool := qry b || [63, 94, 96, 123, 125].contains b
def inf (b : Int) : Bool := pth b || [47, 58, 59, 61, 64, 91, 92, 93, 124].contains b
def cmp (b : Int) : Bool := inf b || [36, 37, 38, 43, 44].contains b
def inB (s b : Int) : Bool :=
  if s = 1 then ctl b else if s = 2 then ctl b || [32, 34, 60, 62, 96].contains b else if s = 3 then qry b else if s = 4 then qry b || b == 39
  else if s = 5 then pth b else if s = 6 then inf b else if s = 7 then cmp b else if s = 8 then cmp b || [33, 39, 40, 41, 126].contains b else false
/-- A digit's sign. -/
def hexU (n : Nat) : UInt8 := if n < 10 then (48 + n).toUInt8 else (55 + n).toUInt8
def encByte (s : Int) (c : UInt8) : List UInt8 := if inB s (c.toNat : Int) then [37, hexU (c.toNat / 16), hexU (c.toNat % 16)] else [c]
def encL (s : Int) (l : List UInt8) : List UInt8 := l.flatMap (encByte s)
theorem encL_append (s : Int) (a b : List UInt8) : encL s (a ++ b) = encL s a ++ encL s b := by simp [encL]
theorem encL_one (s : Int) (c : UInt8) : encL s [c] = encByte s c := by simp [encL]
theorem encByte_length (s : Int) (c : UInt8) : (encByte s c).length ≤ 3 := by unfold encByte; split <;> simp
theorem encL_length (s : Int) (l : List UInt8) : (encL s l).length ≤ 3 * l.length := by
  induction l with
  | nil => simp [encL]
  | cons c l ih =>
    have h : encL s (c :: l) = encByte s c ++ encL s l := by simp [encL]
    have := encByte_length s c
    rw [h, List.length_append, List.length_cons]; omega
theorem take_snoc (s : ByteArray) (k : Nat) (h : k < s.size) : s.data.toList.take (k + 1) = s.data.toList.take k ++ [s[k]] := by
  rw [List.take_succ_eq_append_getElem (by simpa using h)]; rfl
theorem take_size (s : ByteArray) : s.data.toList.take s.size = s.data.toList := List.take_of_length_le (by simp)
end Go.Proofs.YtbcbmmlpgdndpaaDoor.P1
end
section
set_option linter.unusedSimpArgs false
set_option linter.unusedVariables false
namespace Go.Proofs.YtbcbmmlpgdndpaaDoor.St
section
variable {α : Type} {lt : α → α → Bool}
/-- one that is behind none goes ahead -/
theorem mrg_first (x : α) : ∀ l : List α, (∀ y ∈ l, leq lt x y = true) → mrg (leq lt) [x] l = x :: l
  | [], _ => mrg_nil_right _ _
  | y :: l, h => by rw [mrg_cons, if_pos (h y List.mem_cons_self), mrg_nil_left]
/-- what is ordered stays -/
theorem stab_of_sorted : ∀ l : List α, Sd lt l → stab (leq lt) l = l
  | [], _ => rfl
  | x :: l, h => by
    have h' := List.pairwise_cons.1 h
    show mrg (leq lt) [x] (stab (leq lt) l) = _
    rw [stab_of_sorted l h'.2, mrg_first x l h'.1]
/-- of those that pass a test that tells no two alike apart: the order stays -/
theorem mrg_filter (p : α → Bool) (x : α) (hx : ∀ y, p x = true → p y = true → leq lt x y = true) : ∀ l : List α, (mrg (leq lt) [x] l).filter p = [x].filter p ++ l.filter p
  | [] => by rw [mrg_nil_right]; simp
  | y :: l => by
    rw [mrg_cons]
    by_cases h : leq lt x y = true
    · rw [if_pos h, mrg_nil_left, ← List.filter_append]; rfl
    · rw [if_neg h]
      have ih := mrg_filter p x hx l
      cases hp : p x with
      | true =>
        have hy : p y = false := by
          cases hy : p y with
          | false => rfl
          | true => exact absurd (hx y hp hy) h
        rw [List.filter_cons_of_neg (by simp [hy]), ih, List.filter_cons_of_neg (l := l) (by simp [hy])]
      | false =>
        cases hy : p y with
        | true => rw [List.filter_cons_of_pos hy, ih, List.filter_cons_of_pos (l := l) hy]; simp [hp]
        | false => rw [List.filter_cons_of_neg (by simp [hy]), ih, List.filter_cons_of_neg (l := l) (by simp [hy])]
theorem stab_filter (p : α → Bool) (hp : ∀ x y, p x = true → p y = true → leq lt x y = true) : ∀ l : List α, (stab (leq lt) l).filter p = l.filter p
  | [] => rfl
  | x :: l => by
    show (mrg (leq lt) [x] (stab (leq lt) l)).filter p = _
    rw [mrg_filter p x (fun y h1 h2 => hp x y h1 h2), stab_filter p hp l, ← List.filter_append]; rfl
theorem lex_irr : ∀ a : List Int, lexLt a a = false
  | [] => rfl
  | x :: s => by rw [lexLt, if_pos rfl]; exact lex_irr s
/-- of one key -/
theorem stab_key (key : α → List Int) (p : α → Bool) (hp : ∀ x y, p x = true → p y = true → key x = key y) (l : List α) : (stab (leq fun a b => lexLt (key a) (key b)) l).filter p = l.filter p :=
  stab_filter p (fun x y h1 h2 => by
    show (!lexLt (key y) (key x)) = true
    rw [hp y x h2 h1, lex_irr]; rfl) l
end
end Go.Proofs.YtbcbmmlpgdndpaaDoor.St
end
section
set_option linter.unusedSimpArgs false
set_option linter.unusedVariables false
namespace Go.Proofs
open Go.Shelf Go.RowKit
def Tryd.lays155_ren : Go.Shelf.Ren := ⟨fun | 138 => 81 | 143 => 71 | 154 => 65 | 155 => 48 | 165 => 82 | 166 => 47 | 169 => 28 | 195 => 96 | 197 => 70 | 217 => 87 | 218 => 97 | 219 => 72 | 224 => 89 | 225 => 88 | 240 => 44 | 241 => 98 | 260 => 86 | 266 => 100 | 267 => 90 | 276 => 61 | 277 => 103 | 314 => 101 | n => n, fun | 0 => 0 | 3 => 3 | 4 => 4 | 5 => 5 | 9 => 9 | 20 => 20 | 21 => 21 | 37 => 45 | 46 => 86 | 51 => 121 | 70 => 44 | 72 => 47 | 75 => 51 | 76 => 76 | 80 => 54 | 105 => 97 | 119 => 82 | 127 => 79 | 138 => 84 | 139 => 85 | 146 => 122 | 164 => 91 | n => n, fun | 1 => 2 | 3 => 0 | 4 => 1 | n => n⟩
theorem Tryd.lays155 : Go.Proofs.Lays.n155 Tryd.prog Tryd.lays155_ren := {
  mixed := by kernel_rfl
  f138 := Tryd.func81.trans (congrArg some (by kernel_rfl))
  f143 := Tryd.func71.trans (congrArg some (by kernel_rfl))
  f154 := Tryd.func65.trans (congrArg some (by kernel_rfl))
  f155 := Tryd.func48.trans (congrArg some (by kernel_rfl))
  f165 := Tryd.func82.trans (congrArg some (by kernel_rfl))
  f166 := Tryd.func47.trans (congrArg some (by kernel_rfl))
  f169 := Tryd.func28.trans (congrArg some (by kernel_rfl))
  f195 := Tryd.func96.trans (congrArg some (by kernel_rfl))
  f197 := Tryd.func70.trans (congrArg some (by kernel_rfl))
  f217 := Tryd.func87.trans (congrArg some (by kernel_rfl))
  f218 := Tryd.func97.trans (congrArg some (by kernel_rfl))
  f219 := Tryd.func72.trans (congrArg some (by kernel_rfl))
  f224 := Tryd.func89.trans (congrArg some (by kernel_rfl))
  f225 := Tryd.func88.trans (congrArg some (by kernel_rfl))
  f240 := Tryd.func44.trans (congrArg some (by kernel_rfl))
  f241 := Tryd.func98.trans (congrArg some (by kernel_rfl))
  f260 := Tryd.func86.trans (congrArg some (by kernel_rfl))
  f266 := Tryd.func100.trans (congrArg some (by kernel_rfl))
  f267 := Tryd.func90.trans (congrArg some (by kernel_rfl))
  f276 := Tryd.func61.trans (congrArg some (by kernel_rfl))
  f277 := Tryd.func103.trans (congrArg some (by kernel_rfl))
  f314 := Tryd.func101.trans (congrArg some (by kernel_rfl))
  t0 := Tryd.underlying0
  a0 := Tryd.isAgg0
  z0 := Tryd.sizeOf0
  v0 := Tryd.zeroValue0
  t3 := Tryd.underlying3
  a3 := Tryd.isAgg3
  z3 := Tryd.sizeOf3
  v3 := Tryd.zeroValue3
  t4 := Tryd.underlying4
  a4 := Tryd.isAgg4
  z4 := Tryd.sizeOf4
  v4 := Tryd.zeroValue4
  t5 := Tryd.underlying5
  a5 := Tryd.isAgg5
  z5 := Tryd.sizeOf5
  v5 := Tryd.zeroValue5
  t9 := Tryd.underlying9
  a9 := Tryd.isAgg9
  z9 := Tryd.sizeOf9
  v9 := Tryd.zeroValue9
  t20 := Tryd.underlying20
  a20 := Tryd.isAgg20
  z20 := Tryd.sizeOf20
  v20 := Tryd.zeroValue20
  t21 := Tryd.underlying21
  a21 := Tryd.isAgg21
  z21 := Tryd.sizeOf21
  v21 := Tryd.zeroValue21
  t37 := Tryd.underlying45
  a37 := Tryd.isAgg45
  z37 := Tryd.sizeOf45
  v37 := Tryd.zeroValue45
  t46 := Tryd.underlying86
  a46 := Tryd.isAgg86
  z46 := Tryd.sizeOf86
  v46 := Tryd.zeroValue86
  t51 := Tryd.underlying121
  a51 := Tryd.isAgg121
  z51 := Tryd.sizeOf121
  v51 := Tryd.zeroValue121
  t70 := Tryd.underlying44
  a70 := Tryd.isAgg44
  z70 := Tryd.sizeOf44
  v70 := Tryd.zeroValue44
  t72 := Tryd.underlying47
  a72 := Tryd.isAgg47
  z72 := Tryd.sizeOf47
  v72 := Tryd.zeroValue47
  t75 := Tryd.underlying51
  a75 := Tryd.isAgg51
  z75 := Tryd.sizeOf51
  v75 := Tryd.zeroValue51
  t76 := Tryd.underlying76
  a76 := Tryd.isAgg76
  z76 := Tryd.sizeOf76
  v76 := Tryd.zeroValue76
  t105 := Tryd.underlying97
  a105 := Tryd.isAgg97
  z105 := Tryd.sizeOf97
  v105 := Tryd.zeroValue97
  t119 := Tryd.underlying82
  a119 := Tryd.isAgg82
  z119 := Tryd.sizeOf82
  t127 := Tryd.underlying79
  a127 := Tryd.isAgg79
  z127 := Tryd.sizeOf79
  v127 := Tryd.zeroValue79
  t138 := Tryd.underlying84
  a138 := Tryd.isAgg84
  z138 := Tryd.sizeOf84
  v138 := Tryd.zeroValue84
  t139 := Tryd.underlying85
  a139 := Tryd.isAgg85
  z139 := Tryd.sizeOf85
  v139 := Tryd.zeroValue85
  t146 := Tryd.underlying122
  a146 := Tryd.isAgg122
  z146 := Tryd.sizeOf122
  v146 := Tryd.zeroValue122
  t164 := Tryd.underlying91
  a164 := Tryd.isAgg91
  z164 := Tryd.sizeOf91
  v164 := Tryd.zeroValue91
  g1 := by kernel_rfl
  g3 := by kernel_rfl
  g4 := by kernel_rfl }
theorem Tryd.extra155 : Builder.Extra Tryd.prog Tryd.lays155_ren where
  sizeBuilder := by kernel_rfl
  liesBuilder := by kernel_rfl
  t5 := Tryd.underlying5
  a5 := Tryd.isAgg5
  z5 := Tryd.sizeOf5
  v5 := Tryd.zeroValue5
  infoByte := by kernel_rfl
  cellsByte := by kernel_rfl
  sizeByte := by kernel_rfl
  neB5 := by decide
end Go.Proofs
namespace Go.Proofs.YtbcbmmlpgdndpaaDoor.Q
open Go.RowKit Go.Proofs.YtbcbmmlpgdndpaaDoorW.PrintWords Go.Proofs.YtbcbmmlpgdndpaaDoorW.PrintLast Go.Proofs.YtbcbmmlpgdndpaaDoorW.PrintMore
def strings_ReplaceAll.f (a0 a1 a2 : ByteArray) : Option ByteArray :=
  if a0.size < 4294967281 ∧ 1 ≤ a1.size ∧ a0.size + Lib.countB a0 a1 * a2.size ≤ 140737488355328 then some ⟨(Lib.replaceAll a0.data.toList a1.data.toList a2.data.toList).toArray⟩ else none
theorem strings_ReplaceAll.calls (a0 a1 a2 : ByteArray) (r : ByteArray) (w : World) (hT : UTabs w) (h : strings_ReplaceAll.f a0 a1 a2 = some r) :
    Calls Tryd.prog 48 #[.string a0, .string a1, .string a2] w fun e w' => e = .returned (.string r) ∧ Below w.heap.size w w' := by
  unfold strings_ReplaceAll.f at h
  split at h
  · rename_i hs
    cases h
    obtain ⟨_, ⟨m, hm⟩, _⟩ := hT
    exact Any.strings_ReplaceAll Tryd.lays155 Tryd.extra155 a0 a1 a2 m w hs.1 hm hs.2.1 hs.2.2
  · cases h
end Go.Proofs.YtbcbmmlpgdndpaaDoor.Q
end
