/- Plain words on bytes: the sets of percent-encoding, encoding, and what they need; no program in sight. -/
/- Functions of the given program as plain Lean functions, each with the proof that the machine answers as it does; laid by a program of mine over the kit print. -/
/- Functions of the given program as plain Lean functions, each with the proof that the machine answers as it does; laid by a program of mine over the kit print. -/
/- Functions of the given program as plain Lean functions, each with the proof that the machine answers as it does; laid by a program of mine over the kit print. -/
import Derived.PlainAid
import Derived.Test.YtbcbmmlpgdndpaaDoorSQbase
section
set_option linter.unusedSimpArgs false
set_option linter.unusedVariables false
namespace Go.Proofs.YtbcbmmlpgdndpaaDoor.P1
/-- The sets. -/
def ctl (b : Int) : Bool := decide (b < 32) || decide (126 < b)
def qry (b : Int) : Bool := ctl b || [32, 34, 35, 60, 62].contains b
def pth (b : Int) : Bool := qry b || [63, 94, 96, 123, 125].contains b
def inf (b : Int) : Bool := pth b || [47, 58, 59, 61, 64, 91, 92, 93, 124].contains b
def cmp (b : Int) : Bool := inf b || [36, 37, 38, 43, 44].contains b
def inB (s b : Int) : Bool :=
  if s = 1 then ctl b else if s = 2 then ctl b || [32, 34, 60, 62, 96].contains b else if s = 3 then qry b else if s = 4 then qry b || b == 39
  else if s = 5 then pth b else if s = 6 then inf b else if s = 7 then cmp b else if s = 8 then cmp b || [33, 39, 40, 41, 126].contains b else false
/-- A digit's sign. -/
def hexU (n : Nat) : UInt8 := if n < 10 then (48 + n).toUInt8 else (55 + n).toUInt8
def encByte (s : Int) (c : UInt8) : List UInt8 := if inB s (c.toNat : Int) then [37, hexU (c.toNat / 16), hexU (c.toNat % 16)] else [c]
def encL (s : Int) (l : List UInt8) : List UInt8 := l.flatMap (encByte s)
theorem encL_append (s : Int) (a b : List UInt8) : encL s (a ++ b) = encL s a ++ encL s b := by simp [encL]
theorem encL_one (s : Int) (c : UInt8) : encL s [c] = encByte s c := by simp [encL]
theorem encByte_length (s : Int) (c : UInt8) : (encByte s c).length ≤ 3 := by unfold encByte; split <;> simp
theorem encL_length (s : Int) (l : List UInt8) : (encL s l).length ≤ 3 * l.length := by
  induction l with
  | nil => simp [encL]
  | cons c l ih =>
    have h : encL s (c :: l) = encByte s c ++ encL s l := by simp [encL]
    have := encByte_length s c
    rw [h, List.length_append, List.length_cons]; omega
theorem take_snoc (s : ByteArray) (k : Nat) (h : k < s.size) : s.data.toList.take (k + 1) = s.data.toList.take k ++ [s[k]] := by
  rw [List.take_succ_eq_append_getElem (by simpa using h)]; rfl
theorem take_size (s : ByteArray) : s.data.toList.take s.size = s.data.toList := List.take_of_length_le (by simp)
end Go.Proofs.YtbcbmmlpgdndpaaDoor.P1
end
section
namespace Go.Proofs.YtbcbmmlpgdndpaaDoor.Q
open Go.RowKit Go.Proofs.YtbcbmmlpgdndpaaDoorW.PrintWords Go.Proofs.YtbcbmmlpgdndpaaDoorW.PrintLast Go.Proofs.YtbcbmmlpgdndpaaDoorW.PrintMore
attribute [local go_sem] max2_int min2_int max_two min_two max_three min_three max_four min_four
set_option linter.unusedVariables false
set_option linter.unusedSimpArgs false
end Go.Proofs.YtbcbmmlpgdndpaaDoor.Q
end
section
namespace Go.Proofs.YtbcbmmlpgdndpaaDoor.Q
open Go.RowKit Go.Proofs.YtbcbmmlpgdndpaaDoorW.PrintWords Go.Proofs.YtbcbmmlpgdndpaaDoorW.PrintLast Go.Proofs.YtbcbmmlpgdndpaaDoorW.PrintMore
attribute [local go_sem] max2_int min2_int max_two min_two max_three min_three max_four min_four
set_option linter.unusedVariables false
set_option linter.unusedSimpArgs false
end Go.Proofs.YtbcbmmlpgdndpaaDoor.Q
end
section
namespace Go.Proofs.YtbcbmmlpgdndpaaDoor.Q
open Go.RowKit Go.Proofs.YtbcbmmlpgdndpaaDoorW.PrintWords Go.Proofs.YtbcbmmlpgdndpaaDoorW.PrintLast Go.Proofs.YtbcbmmlpgdndpaaDoorW.PrintMore
attribute [local go_sem] max2_int min2_int max_two min_two max_three min_three max_four min_four
set_option linter.unusedVariables false
set_option linter.unusedSimpArgs false
theorem eqA32 (d : Nat) (w : World) (x0 y0 : ByteArray) (x1 y1 : ByteArray) :
    (Op.equalIn (d + 2) 32 (.agg #[.string x0, .string x1]) (.agg #[.string y0, .string y1])).run Tryd.prog w = .ok (x0.toList == y0.toList && (x1.toList == y1.toList)) w := by
  refine eqA_of Tryd.underlying32 (by kernel_rfl) ?_
  refine eqf_cons (by rfl) (by go_simp; rfl) (by go_simp; rfl) (by go_simp) ?_
  exact eqf_last (by rfl) (by go_simp; rfl) (by go_simp; rfl) (by go_simp)
end Go.Proofs.YtbcbmmlpgdndpaaDoor.Q
end
