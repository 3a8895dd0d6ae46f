/- Plain words on bytes: the sets of percent-encoding, encoding, and what they need; no program in sight. -/
/- Functions of the given program as plain Lean functions, each with the proof that the machine answers as it does; laid by a program of mine over the kit print. -/
import Derived.PlainAid
import Derived.Test.YtbcbmmlpgdndpaaDoorSB3
section
set_option linter.unusedSimpArgs false
set_option linter.unusedVariables false
namespace Go.Proofs.YtbcbmmlpgdndpaaDoor.P1
/-- The sets. -/
def ctl (b : Int) : Bool := decide (b < 32) || decide (126 < b)
def qry (b : Int) : Bool := ctl b || [32, 34, 35, 60, 62].contains b
def pth (b : Int) : Bool := qry b || [63, 94, 96, 123, 125].contains b
def inf (b : Int) : Bool := pth b || [47, 58, 59, 61, 64, 91, 92, 93, 124].contains b
def cmp (b : Int) : Bool := inf b || [36, 37, 38, 43, 44].contains b
def inB (s b : Int) : Bool :=
  if s = 1 then ctl b else if s = 2 then ctl b || [32, 34, 60, 62, 96].contains b else if s = 3 then qry b else if s = 4 then qry b || b == 39
  else if s = 5 then pth b else if s = 6 then inf b else if s = 7 then cmp b else if s = 8 then cmp b || [33, 39, 40, 41, 126].contains b else false
/-- A digit's sign. -/
def hexU (n : Nat) : UInt8 := if n < 10 then (48 + n).toUInt8 else (55 + n).toUInt8
def encByte (s : Int) (c : UInt8) : List UInt8 := if inB s (c.toNat : Int) then [37, hexU (c.toNat / 16), hexU (c.toNat % 16)] else [c]
def encL (s : Int) (l : List UInt8) : List UInt8 := l.flatMap (encByte s)
theorem encL_append (s : Int) (a b : List UInt8) : encL s (a ++ b) = encL s a ++ encL s b := by simp [encL]
theorem encL_one (s : Int) (c : UInt8) : encL s [c] = encByte s c := by simp [encL]
theorem encByte_length (s : Int) (c : UInt8) : (encByte s c).length ≤ 3 := by unfold encByte; split <;> simp
theorem encL_length (s : Int) (l : List UInt8) : (encL s l).length ≤ 3 * l.length := by
  induction l with
  | nil => simp [encL]
  | cons c l ih =>
    have h : encL s (c :: l) = encByte s c ++ encL s l := by simp [encL]
    have := encByte_length s c
    rw [h, List.length_append, List.length_cons]; omega
theorem take_snoc (s : ByteArray) (k : Nat) (h : k < s.size) : s.data.toList.take (k + 1) = s.data.toList.take k ++ [s[k]] := by
  rw [List.take_succ_eq_append_getElem (by simpa using h)]; rfl
theorem take_size (s : ByteArray) : s.data.toList.take s.size = s.data.toList := List.take_of_length_le (by simp)
end Go.Proofs.YtbcbmmlpgdndpaaDoor.P1
end
section
set_option linter.unusedSimpArgs false
set_option linter.unusedVariables false
namespace Go.Proofs.YtbcbmmlpgdndpaaDoor.Ql
variable {σ κ : Type} [DecidableEq κ] (key : σ → κ) (n : κ)
def has (x : σ) : Bool := decide (key x = n)
def lack (x : σ) : Bool := decide (key x ≠ n)
theorem lack_not (x : σ) : lack key n x = !has key n x := by simp [lack, has]
/-- what is put: once, where the first of the name stood -/
def putS (f : σ) : List σ → List σ
  | [] => [f]
  | x :: l => if key x = n then f :: l.filter (lack key n) else x :: putS f l
def dropS (l : List σ) : List σ := l.filter (lack key n)
/-- the document's way: front to back, with a sign that it has been put -/
def putR (f : σ) : List σ → List σ → Bool → List σ
  | [], out, put => if put then out else out ++ [f]
  | x :: l, out, put => if key x = n then (if put then putR f l out put else putR f l (out ++ [f]) true) else putR f l (out ++ [x]) put
theorem putR_true (f : σ) : ∀ l out : List σ, putR key n f l out true = out ++ dropS key n l
  | [], out => by simp [putR, dropS]
  | x :: l, out => by
    rw [putR]
    by_cases h : key x = n
    · rw [if_pos h, if_pos rfl, putR_true f l, dropS, dropS, List.filter_cons_of_neg (by simp [lack, h])]
    · rw [if_neg h, putR_true f l, dropS, dropS, List.filter_cons_of_pos (by simp [lack, h])]; simp
theorem putR_false (f : σ) : ∀ l out : List σ, putR key n f l out false = out ++ putS key n f l
  | [], out => by simp [putR, putS]
  | x :: l, out => by
    rw [putR, putS]
    by_cases h : key x = n
    · rw [if_pos h, if_pos h, if_neg (by decide), putR_true]; simp [dropS]
    · rw [if_neg h, if_neg h, putR_false f l]; simp
theorem dropS_length (f : σ) (hf : key f = n) : ∀ l : List σ, (dropS key n l).length + 1 = (putS key n f l).length
  | [] => by simp [putS, dropS]
  | x :: l => by
    rw [putS]
    by_cases h : key x = n
    · rw [if_pos h, dropS, List.filter_cons_of_neg (by simp [lack, h]), List.length_cons]
    · have ih := dropS_length f hf l
      unfold dropS at ih ⊢
      rw [if_neg h, List.filter_cons_of_pos (by simp [lack, h]), List.length_cons, List.length_cons, ih]
end Go.Proofs.YtbcbmmlpgdndpaaDoor.Ql
end
section
namespace Go.Proofs.YtbcbmmlpgdndpaaDoor.Q
open Go.RowKit Go.Proofs.YtbcbmmlpgdndpaaDoorW.PrintWords Go.Proofs.YtbcbmmlpgdndpaaDoorW.PrintLast Go.Proofs.YtbcbmmlpgdndpaaDoorW.PrintMore
attribute [local go_sem] max2_int min2_int max_two min_two max_three min_three max_four min_four
set_option linter.unusedVariables false
set_option linter.unusedSimpArgs false
def bastionref01_Digit.l0 : Nat → Int → Int → Option (Int)
 | 0, _, _ => none
 | k + 1, x0, x3 => if x3 < 16 then (if 0 ≤ x3 then (if (bt (⟨#[48, 49, 50, 51, 52, 53, 54, 55, 56, 57, 65, 66, 67, 68, 69, 70]⟩ : ByteArray) x3) = x0 then (some x3) else (if x3 > 9 then (if (((bt (⟨#[48, 49, 50, 51, 52, 53, 54, 55, 56, 57, 65, 66, 67, 68, 69, 70]⟩ : ByteArray) x3) + 32) % 256) = x0 then (some x3) else (bastionref01_Digit.l0 k x0 ((x3 + 1) % 256))) else (bastionref01_Digit.l0 k x0 ((x3 + 1) % 256)))) else (none)) else (some 16)
def bastionref01_Digit.f (k : Nat) (a0 : Int) : Option (Int) := bastionref01_Digit.l0 k a0 0
theorem bastionref01_Digit.mono_l : ∀ k, (∀ y0 y1, LeO (bastionref01_Digit.l0 k y0 y1) (bastionref01_Digit.l0 (k + 1) y0 y1))
 | 0 => fun _ _ r h => by simp [bastionref01_Digit.l0] at h
 | k + 1 => by
  have ih0 := bastionref01_Digit.mono_l k
  ·intro y0 y1
   unfold bastionref01_Digit.l0
   repeat' first
   | (with_reducible exact ih0 _ _)
   | (with_reducible exact LeO.refl _)
   | (with_reducible exact LeO.none _)
   | (with_reducible refine LeO.ite ?_ ?_)
   | (with_reducible refine LeO.bind ?_ (fun _ => ?_))
   | exact ih0 _ _
   | exact LeO.none _
   | refine LeO.ite ?_ ?_
   | refine LeO.bind ?_ (fun _ => ?_)
theorem bastionref01_Digit.mono : ∀ a0 k, LeO (bastionref01_Digit.f k a0) (bastionref01_Digit.f (k + 1) a0) := by
 intro a0 k
 have ih0 := bastionref01_Digit.mono_l k
 unfold bastionref01_Digit.f
 repeat' first
   | (with_reducible exact ih0 _ _)
   | (with_reducible exact LeO.refl _)
   | (with_reducible exact LeO.none _)
   | (with_reducible refine LeO.ite ?_ ?_)
   | (with_reducible refine LeO.bind ?_ (fun _ => ?_))
   | exact ih0 _ _
   | exact LeO.none _
   | refine LeO.ite ?_ ?_
   | refine LeO.bind ?_ (fun _ => ?_)
mutual
def bastionref01_Decode.l0 : Nat → ByteArray → List Int → Int → Option (ByteArray)
 | 0, _, _, _ => none
 | k + 1, x0, x3, x4 => if x4 < (x0.size : Int) then (if 0 ≤ x4 then (if (bt x0 x4) = 37 then (if (wrap64 (x4 + 2)) < (x0.size : Int) then (if 0 ≤ (wrap64 (x4 + 1)) then (if (wrap64 (x4 + 1)) < (x0.size : Int) then ((bastionref01_Digit.f k (bt x0 (wrap64 (x4 + 1)))).bind fun t276 => (if t276 < 16 then (if 0 ≤ (wrap64 (x4 + 2)) then ((bastionref01_Digit.f k (bt x0 (wrap64 (x4 + 2)))).bind fun t277 => (bastionref01_Decode.j1 k x0 x3 x4 (decide (t277 < 16)))) else (none)) else (bastionref01_Decode.j1 k x0 x3 x4 false))) else (none)) else (none)) else (bastionref01_Decode.j1 k x0 x3 x4 false)) else (bastionref01_Decode.j1 k x0 x3 x4 false)) else (none)) else (some (strOfNums x3))
def bastionref01_Decode.j1 : Nat → ByteArray → List Int → Int → Bool → Option (ByteArray)
 | 0, _, _, _, _ => none
 | k + 1, x0, x3, x4, x37 => if x37 = true then (if 0 ≤ (wrap64 (x4 + 1)) then (if (wrap64 (x4 + 1)) < (x0.size : Int) then ((bastionref01_Digit.f k (bt x0 (wrap64 (x4 + 1)))).bind fun t278 => (if 0 ≤ (wrap64 (x4 + 2)) then (if (wrap64 (x4 + 2)) < (x0.size : Int) then ((bastionref01_Digit.f k (bt x0 (wrap64 (x4 + 2)))).bind fun t279 => (if x3.length < 140737488355328 then (bastionref01_Decode.l0 k x0 (x3 ++ [(((t278 * 16) % 256) + t279) % 256]) (wrap64 ((wrap64 (x4 + 2)) + 1))) else (none))) else (none)) else (none))) else (none)) else (none)) else (if 0 ≤ x4 then (if x4 < (x0.size : Int) then (if x3.length < 140737488355328 then (bastionref01_Decode.l0 k x0 (x3 ++ [bt x0 x4]) (wrap64 (x4 + 1))) else (none)) else (none)) else (none))
end
def bastionref01_Decode.f (k : Nat) (a0 : ByteArray) : Option (ByteArray) := bastionref01_Decode.l0 k a0 ([] : List Int) 0
end Go.Proofs.YtbcbmmlpgdndpaaDoor.Q
end
