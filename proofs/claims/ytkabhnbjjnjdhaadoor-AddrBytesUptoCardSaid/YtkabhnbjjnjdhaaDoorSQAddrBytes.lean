/- Functions of the given program as plain Lean functions, each with the proof that the machine answers as it does; laid by a program of mine over the kit print. -/
import Derived.Test.YtkabhnbjjnjdhaaDoorSQbase
import Derived.Test.YtkabhnbjjnjdhaaDoorSB4
import Derived.Test.YtkabhnbjjnjdhaaDoorSAV4
import Derived.Test.YtkabhnbjjnjdhaaDoorSQbastionlaw072
import Derived.Test.YtkabhnbjjnjdhaaDoorSQbastionlaw07AddrBytes1A
import Derived.Test.YtkabhnbjjnjdhaaDoorSQbastionlaw07AddrBytes2A
namespace Go.Proofs.YtkabhnbjjnjdhaaDoor.Q
open Go.RowKit Go.Proofs.YtkabhnbjjnjdhaaDoorW.PrintWords Go.Proofs.YtkabhnbjjnjdhaaDoorW.PrintLast Go.Proofs.YtkabhnbjjnjdhaaDoorW.PrintMore
attribute [local go_sem] max2_int min2_int max_two min_two max_three min_three max_four min_four
set_option linter.unusedVariables false
set_option linter.unusedSimpArgs false
def bastionlaw07_AddrBytes.f (k : Nat) (a0 : Int) (a1 : Int) (a2 : Int) (a3 : Int) : Option (Bool) := (bastionlaw07_lives.f k).bind fun t295 => (if t295 = true then ((bastionlaw07_AddrBytes_1.f a0).bind fun t296 => (if t296.size + 1 ≤ 9223372036854775807 then ((bastionlaw07_AddrBytes_2.f a1).bind fun t297 => (if (t296 ++ (⟨#[46]⟩ : ByteArray)).size + t297.size ≤ 9223372036854775807 then (if ((t296 ++ (⟨#[46]⟩ : ByteArray)) ++ t297).size + 1 ≤ 9223372036854775807 then ((bastionlaw07_AddrBytes_1.f a2).bind fun t298 => (if (((t296 ++ (⟨#[46]⟩ : ByteArray)) ++ t297) ++ (⟨#[46]⟩ : ByteArray)).size + t298.size ≤ 9223372036854775807 then (if ((((t296 ++ (⟨#[46]⟩ : ByteArray)) ++ t297) ++ (⟨#[46]⟩ : ByteArray)) ++ t298).size + 1 ≤ 9223372036854775807 then ((bastionlaw07_AddrBytes_2.f a3).bind fun t299 => (if (((((t296 ++ (⟨#[46]⟩ : ByteArray)) ++ t297) ++ (⟨#[46]⟩ : ByteArray)) ++ t298) ++ (⟨#[46]⟩ : ByteArray)).size + t299.size ≤ 9223372036854775807 then ((addr_V4.f ((((((t296 ++ (⟨#[46]⟩ : ByteArray)) ++ t297) ++ (⟨#[46]⟩ : ByteArray)) ++ t298) ++ (⟨#[46]⟩ : ByteArray)) ++ t299)).bind fun bt300 => ((bastionlaw07_AddrBytes_1.f a0).bind fun t302 => (if t302.size + 1 ≤ 9223372036854775807 then ((bastionlaw07_AddrBytes_2.f a1).bind fun t303 => (if (t302 ++ (⟨#[46]⟩ : ByteArray)).size + t303.size ≤ 9223372036854775807 then (if ((t302 ++ (⟨#[46]⟩ : ByteArray)) ++ t303).size + 1 ≤ 9223372036854775807 then ((bastionlaw07_AddrBytes_1.f a2).bind fun t304 => (if (((t302 ++ (⟨#[46]⟩ : ByteArray)) ++ t303) ++ (⟨#[46]⟩ : ByteArray)).size + t304.size ≤ 9223372036854775807 then ((bastionlaw07_AddrBytes_2.f a3).bind fun t305 => (if 0 ≤ 0 then (if 0 ≤ (t305.size : Int) then (if ((((t302 ++ (⟨#[46]⟩ : ByteArray)) ++ t303) ++ (⟨#[46]⟩ : ByteArray)) ++ t304).size + (t305.extract 0 0).size ≤ 9223372036854775807 then (if (((((t302 ++ (⟨#[46]⟩ : ByteArray)) ++ t303) ++ (⟨#[46]⟩ : ByteArray)) ++ t304)).size + 1 ≤ 9223372036854775807 then ((bastionlaw07_AddrBytes_1.f a3).bind fun t306 => (if ((((((t302 ++ (⟨#[46]⟩ : ByteArray)) ++ t303) ++ (⟨#[46]⟩ : ByteArray)) ++ t304)) ++ (⟨#[46]⟩ : ByteArray)).size + t306.size ≤ 9223372036854775807 then ((addr_V4.f (((((((t302 ++ (⟨#[46]⟩ : ByteArray)) ++ t303) ++ (⟨#[46]⟩ : ByteArray)) ++ t304)) ++ (⟨#[46]⟩ : ByteArray)) ++ t306)).bind fun bt307 => (if bt300.1 = (Go.bits .or .u32 (Go.bits .or .u32 (Go.bits .or .u32 ((((a0) % 4294967296) * 16777216) % 4294967296) ((((a1) % 4294967296) * 65536) % 4294967296)) ((((a2) % 4294967296) * 256) % 4294967296)) ((a3) % 4294967296)) then (if bt300.2 = 0 then (if bt307.1 = (Go.bits .or .u32 (Go.bits .or .u32 (Go.bits .or .u32 ((((a0) % 4294967296) * 16777216) % 4294967296) ((((a1) % 4294967296) * 65536) % 4294967296)) ((((a2) % 4294967296) * 256) % 4294967296)) ((a3) % 4294967296)) then (some (bt307.2 == 0)) else (some false)) else (some false)) else (some false))) else (none))) else (none)) else (none)) else (none)) else (none))) else (none))) else (none)) else (none))) else (none)))) else (none))) else (none)) else (none))) else (none)) else (none))) else (none))) else (some false))
def bastionlaw07_AddrBytes.T7 : Bool × List (List Nat × List Nat) := (true, [([], []), ([], []), ([0, 1], [0, 1]), ([2], [2]), ([], []), ([], []), ([4, 5, 2], [4, 5]), ([3, 6], [3, 6]), ([7], [7]), ([], []), ([], []), ([9, 10, 6], [9, 10]), ([8, 11], [8, 11]), ([], []), ([], []), ([13, 14, 11], [13, 14]), ([15], [15]), ([12, 16], [12, 16]), ([17], [17]), ([], []), ([], []), ([19, 20, 15], [19, 20]), ([18, 21], [18, 21]), ([22, 21], [22]), ([23], [23]), ([24], [24]), ([24], [24]), ([25, 23, 0, 1, 2, 3, 4, 5, 6, 7, 8, 9, 10, 11, 12, 13, 14, 15, 16, 17, 18, 19, 20, 21, 22, 23, 24, 25], [25]), ([26, 27, 0, 1, 2, 3, 4, 5, 6, 7, 8, 9, 10, 11, 12, 13, 14, 15, 16, 17, 18, 19, 20, 21, 22, 23, 24, 25, 26, 27], [26])])
def bastionlaw07_AddrBytes.B7 : List Nat := [0, 0, 3, 7, 0, 0, 55, 127, 255, 0, 0, 1655, 4095, 0, 0, 28279, 61047, 131071, 262143, 0, 0, 1633911, 4194303, 8388607, 16777215, 33554431, 33554431, 67108863, 268435455]
theorem bastionlaw07_AddrBytes.tab7 : rtab .any (opsOf Tryd.f8 7) = bastionlaw07_AddrBytes.T7 := by kernel_rfl
theorem bastionlaw07_AddrBytes.bits7 : waitsOk bastionlaw07_AddrBytes.T7.2 bastionlaw07_AddrBytes.B7 = true := by kernel_rfl
set_option maxHeartbeats 8000000 in
set_option maxRecDepth 100000 in
theorem bastionlaw07_AddrBytes.calls (k : Nat) (a0 : Int) (a1 : Int) (a2 : Int) (a3 : Int) (r : Bool) (w : World) (hT : UTabs w) (h : bastionlaw07_AddrBytes.f k a0 a1 a2 a3 = some r) :
    Calls Tryd.prog 8 #[.int .u8 a0, .int .u8 a1, .int .u8 a2, .int .u8 a3] w fun e w' => e = .returned (.bool r) ∧ Below w.heap.size w w' := by
  have HB := Aside0.mk (Below.refl w.heap.size w)
  have HTB := Aside0.mk hT
  clear hT
  have H : ((bastionlaw07_lives.f k).bind fun t295 => (if t295 = true then ((bastionlaw07_AddrBytes_1.f a0).bind fun t296 => (if t296.size + 1 ≤ 9223372036854775807 then ((bastionlaw07_AddrBytes_2.f a1).bind fun t297 => (if (t296 ++ (⟨#[46]⟩ : ByteArray)).size + t297.size ≤ 9223372036854775807 then (if ((t296 ++ (⟨#[46]⟩ : ByteArray)) ++ t297).size + 1 ≤ 9223372036854775807 then ((bastionlaw07_AddrBytes_1.f a2).bind fun t298 => (if (((t296 ++ (⟨#[46]⟩ : ByteArray)) ++ t297) ++ (⟨#[46]⟩ : ByteArray)).size + t298.size ≤ 9223372036854775807 then (if ((((t296 ++ (⟨#[46]⟩ : ByteArray)) ++ t297) ++ (⟨#[46]⟩ : ByteArray)) ++ t298).size + 1 ≤ 9223372036854775807 then ((bastionlaw07_AddrBytes_2.f a3).bind fun t299 => (if (((((t296 ++ (⟨#[46]⟩ : ByteArray)) ++ t297) ++ (⟨#[46]⟩ : ByteArray)) ++ t298) ++ (⟨#[46]⟩ : ByteArray)).size + t299.size ≤ 9223372036854775807 then ((addr_V4.f ((((((t296 ++ (⟨#[46]⟩ : ByteArray)) ++ t297) ++ (⟨#[46]⟩ : ByteArray)) ++ t298) ++ (⟨#[46]⟩ : ByteArray)) ++ t299)).bind fun bt300 => ((bastionlaw07_AddrBytes_1.f a0).bind fun t302 => (if t302.size + 1 ≤ 9223372036854775807 then ((bastionlaw07_AddrBytes_2.f a1).bind fun t303 => (if (t302 ++ (⟨#[46]⟩ : ByteArray)).size + t303.size ≤ 9223372036854775807 then (if ((t302 ++ (⟨#[46]⟩ : ByteArray)) ++ t303).size + 1 ≤ 9223372036854775807 then ((bastionlaw07_AddrBytes_1.f a2).bind fun t304 => (if (((t302 ++ (⟨#[46]⟩ : ByteArray)) ++ t303) ++ (⟨#[46]⟩ : ByteArray)).size + t304.size ≤ 9223372036854775807 then ((bastionlaw07_AddrBytes_2.f a3).bind fun t305 => (if 0 ≤ 0 then (if 0 ≤ (t305.size : Int) then (if ((((t302 ++ (⟨#[46]⟩ : ByteArray)) ++ t303) ++ (⟨#[46]⟩ : ByteArray)) ++ t304).size + (t305.extract 0 0).size ≤ 9223372036854775807 then (if (((((t302 ++ (⟨#[46]⟩ : ByteArray)) ++ t303) ++ (⟨#[46]⟩ : ByteArray)) ++ t304)).size + 1 ≤ 9223372036854775807 then ((bastionlaw07_AddrBytes_1.f a3).bind fun t306 => (if ((((((t302 ++ (⟨#[46]⟩ : ByteArray)) ++ t303) ++ (⟨#[46]⟩ : ByteArray)) ++ t304)) ++ (⟨#[46]⟩ : ByteArray)).size + t306.size ≤ 9223372036854775807 then ((addr_V4.f (((((((t302 ++ (⟨#[46]⟩ : ByteArray)) ++ t303) ++ (⟨#[46]⟩ : ByteArray)) ++ t304)) ++ (⟨#[46]⟩ : ByteArray)) ++ t306)).bind fun bt307 => (if bt300.1 = (Go.bits .or .u32 (Go.bits .or .u32 (Go.bits .or .u32 ((((a0) % 4294967296) * 16777216) % 4294967296) ((((a1) % 4294967296) * 65536) % 4294967296)) ((((a2) % 4294967296) * 256) % 4294967296)) ((a3) % 4294967296)) then (if bt300.2 = 0 then (if bt307.1 = (Go.bits .or .u32 (Go.bits .or .u32 (Go.bits .or .u32 ((((a0) % 4294967296) * 16777216) % 4294967296) ((((a1) % 4294967296) * 65536) % 4294967296)) ((((a2) % 4294967296) * 256) % 4294967296)) ((a3) % 4294967296)) then (some (bt307.2 == 0)) else (some false)) else (some false)) else (some false))) else (none))) else (none)) else (none)) else (none)) else (none))) else (none))) else (none)) else (none))) else (none)))) else (none))) else (none)) else (none))) else (none)) else (none))) else (none))) else (some false))) = some r := h
  clear h
  replace H := Option.bind_eq_some_iff.mp H
  obtain ⟨t295, A50, H⟩ := H
  replace H : (if t295 = true then ((bastionlaw07_AddrBytes_1.f a0).bind fun t296 => (if t296.size + 1 ≤ 9223372036854775807 then ((bastionlaw07_AddrBytes_2.f a1).bind fun t297 => (if (t296 ++ (⟨#[46]⟩ : ByteArray)).size + t297.size ≤ 9223372036854775807 then (if ((t296 ++ (⟨#[46]⟩ : ByteArray)) ++ t297).size + 1 ≤ 9223372036854775807 then ((bastionlaw07_AddrBytes_1.f a2).bind fun t298 => (if (((t296 ++ (⟨#[46]⟩ : ByteArray)) ++ t297) ++ (⟨#[46]⟩ : ByteArray)).size + t298.size ≤ 9223372036854775807 then (if ((((t296 ++ (⟨#[46]⟩ : ByteArray)) ++ t297) ++ (⟨#[46]⟩ : ByteArray)) ++ t298).size + 1 ≤ 9223372036854775807 then ((bastionlaw07_AddrBytes_2.f a3).bind fun t299 => (if (((((t296 ++ (⟨#[46]⟩ : ByteArray)) ++ t297) ++ (⟨#[46]⟩ : ByteArray)) ++ t298) ++ (⟨#[46]⟩ : ByteArray)).size + t299.size ≤ 9223372036854775807 then ((addr_V4.f ((((((t296 ++ (⟨#[46]⟩ : ByteArray)) ++ t297) ++ (⟨#[46]⟩ : ByteArray)) ++ t298) ++ (⟨#[46]⟩ : ByteArray)) ++ t299)).bind fun bt300 => ((bastionlaw07_AddrBytes_1.f a0).bind fun t302 => (if t302.size + 1 ≤ 9223372036854775807 then ((bastionlaw07_AddrBytes_2.f a1).bind fun t303 => (if (t302 ++ (⟨#[46]⟩ : ByteArray)).size + t303.size ≤ 9223372036854775807 then (if ((t302 ++ (⟨#[46]⟩ : ByteArray)) ++ t303).size + 1 ≤ 9223372036854775807 then ((bastionlaw07_AddrBytes_1.f a2).bind fun t304 => (if (((t302 ++ (⟨#[46]⟩ : ByteArray)) ++ t303) ++ (⟨#[46]⟩ : ByteArray)).size + t304.size ≤ 9223372036854775807 then ((bastionlaw07_AddrBytes_2.f a3).bind fun t305 => (if 0 ≤ 0 then (if 0 ≤ (t305.size : Int) then (if ((((t302 ++ (⟨#[46]⟩ : ByteArray)) ++ t303) ++ (⟨#[46]⟩ : ByteArray)) ++ t304).size + (t305.extract 0 0).size ≤ 9223372036854775807 then (if (((((t302 ++ (⟨#[46]⟩ : ByteArray)) ++ t303) ++ (⟨#[46]⟩ : ByteArray)) ++ t304)).size + 1 ≤ 9223372036854775807 then ((bastionlaw07_AddrBytes_1.f a3).bind fun t306 => (if ((((((t302 ++ (⟨#[46]⟩ : ByteArray)) ++ t303) ++ (⟨#[46]⟩ : ByteArray)) ++ t304)) ++ (⟨#[46]⟩ : ByteArray)).size + t306.size ≤ 9223372036854775807 then ((addr_V4.f (((((((t302 ++ (⟨#[46]⟩ : ByteArray)) ++ t303) ++ (⟨#[46]⟩ : ByteArray)) ++ t304)) ++ (⟨#[46]⟩ : ByteArray)) ++ t306)).bind fun bt307 => (if bt300.1 = (Go.bits .or .u32 (Go.bits .or .u32 (Go.bits .or .u32 ((((a0) % 4294967296) * 16777216) % 4294967296) ((((a1) % 4294967296) * 65536) % 4294967296)) ((((a2) % 4294967296) * 256) % 4294967296)) ((a3) % 4294967296)) then (if bt300.2 = 0 then (if bt307.1 = (Go.bits .or .u32 (Go.bits .or .u32 (Go.bits .or .u32 ((((a0) % 4294967296) * 16777216) % 4294967296) ((((a1) % 4294967296) * 65536) % 4294967296)) ((((a2) % 4294967296) * 256) % 4294967296)) ((a3) % 4294967296)) then (some (bt307.2 == 0)) else (some false)) else (some false)) else (some false))) else (none))) else (none)) else (none)) else (none)) else (none))) else (none))) else (none)) else (none))) else (none)))) else (none))) else (none)) else (none))) else (none)) else (none))) else (none))) else (some false)) = some r := H
  have A5 := Aside0.mk A50
  clear A50
  by_cases c6 : t295 = true
  · subst c6
    have H1 : ((bastionlaw07_AddrBytes_1.f a0).bind fun t296 => (if t296.size + 1 ≤ 9223372036854775807 then ((bastionlaw07_AddrBytes_2.f a1).bind fun t297 => (if (t296 ++ (⟨#[46]⟩ : ByteArray)).size + t297.size ≤ 9223372036854775807 then (if ((t296 ++ (⟨#[46]⟩ : ByteArray)) ++ t297).size + 1 ≤ 9223372036854775807 then ((bastionlaw07_AddrBytes_1.f a2).bind fun t298 => (if (((t296 ++ (⟨#[46]⟩ : ByteArray)) ++ t297) ++ (⟨#[46]⟩ : ByteArray)).size + t298.size ≤ 9223372036854775807 then (if ((((t296 ++ (⟨#[46]⟩ : ByteArray)) ++ t297) ++ (⟨#[46]⟩ : ByteArray)) ++ t298).size + 1 ≤ 9223372036854775807 then ((bastionlaw07_AddrBytes_2.f a3).bind fun t299 => (if (((((t296 ++ (⟨#[46]⟩ : ByteArray)) ++ t297) ++ (⟨#[46]⟩ : ByteArray)) ++ t298) ++ (⟨#[46]⟩ : ByteArray)).size + t299.size ≤ 9223372036854775807 then ((addr_V4.f ((((((t296 ++ (⟨#[46]⟩ : ByteArray)) ++ t297) ++ (⟨#[46]⟩ : ByteArray)) ++ t298) ++ (⟨#[46]⟩ : ByteArray)) ++ t299)).bind fun bt300 => ((bastionlaw07_AddrBytes_1.f a0).bind fun t302 => (if t302.size + 1 ≤ 9223372036854775807 then ((bastionlaw07_AddrBytes_2.f a1).bind fun t303 => (if (t302 ++ (⟨#[46]⟩ : ByteArray)).size + t303.size ≤ 9223372036854775807 then (if ((t302 ++ (⟨#[46]⟩ : ByteArray)) ++ t303).size + 1 ≤ 9223372036854775807 then ((bastionlaw07_AddrBytes_1.f a2).bind fun t304 => (if (((t302 ++ (⟨#[46]⟩ : ByteArray)) ++ t303) ++ (⟨#[46]⟩ : ByteArray)).size + t304.size ≤ 9223372036854775807 then ((bastionlaw07_AddrBytes_2.f a3).bind fun t305 => (if 0 ≤ 0 then (if 0 ≤ (t305.size : Int) then (if ((((t302 ++ (⟨#[46]⟩ : ByteArray)) ++ t303) ++ (⟨#[46]⟩ : ByteArray)) ++ t304).size + (t305.extract 0 0).size ≤ 9223372036854775807 then (if (((((t302 ++ (⟨#[46]⟩ : ByteArray)) ++ t303) ++ (⟨#[46]⟩ : ByteArray)) ++ t304)).size + 1 ≤ 9223372036854775807 then ((bastionlaw07_AddrBytes_1.f a3).bind fun t306 => (if ((((((t302 ++ (⟨#[46]⟩ : ByteArray)) ++ t303) ++ (⟨#[46]⟩ : ByteArray)) ++ t304)) ++ (⟨#[46]⟩ : ByteArray)).size + t306.size ≤ 9223372036854775807 then ((addr_V4.f (((((((t302 ++ (⟨#[46]⟩ : ByteArray)) ++ t303) ++ (⟨#[46]⟩ : ByteArray)) ++ t304)) ++ (⟨#[46]⟩ : ByteArray)) ++ t306)).bind fun bt307 => (if bt300.1 = (Go.bits .or .u32 (Go.bits .or .u32 (Go.bits .or .u32 ((((a0) % 4294967296) * 16777216) % 4294967296) ((((a1) % 4294967296) * 65536) % 4294967296)) ((((a2) % 4294967296) * 256) % 4294967296)) ((a3) % 4294967296)) then (if bt300.2 = 0 then (if bt307.1 = (Go.bits .or .u32 (Go.bits .or .u32 (Go.bits .or .u32 ((((a0) % 4294967296) * 16777216) % 4294967296) ((((a1) % 4294967296) * 65536) % 4294967296)) ((((a2) % 4294967296) * 256) % 4294967296)) ((a3) % 4294967296)) then (some (bt307.2 == 0)) else (some false)) else (some false)) else (some false))) else (none))) else (none)) else (none)) else (none)) else (none))) else (none))) else (none)) else (none))) else (none)))) else (none))) else (none)) else (none))) else (none)) else (none))) else (none))) = some r := by rw [if_pos rfl] at H; exact H
    clear H
    have H := H1
    clear H1
    replace H := Option.bind_eq_some_iff.mp H
    obtain ⟨t296, A70, H⟩ := H
    replace H : (if t296.size + 1 ≤ 9223372036854775807 then ((bastionlaw07_AddrBytes_2.f a1).bind fun t297 => (if (t296 ++ (⟨#[46]⟩ : ByteArray)).size + t297.size ≤ 9223372036854775807 then (if ((t296 ++ (⟨#[46]⟩ : ByteArray)) ++ t297).size + 1 ≤ 9223372036854775807 then ((bastionlaw07_AddrBytes_1.f a2).bind fun t298 => (if (((t296 ++ (⟨#[46]⟩ : ByteArray)) ++ t297) ++ (⟨#[46]⟩ : ByteArray)).size + t298.size ≤ 9223372036854775807 then (if ((((t296 ++ (⟨#[46]⟩ : ByteArray)) ++ t297) ++ (⟨#[46]⟩ : ByteArray)) ++ t298).size + 1 ≤ 9223372036854775807 then ((bastionlaw07_AddrBytes_2.f a3).bind fun t299 => (if (((((t296 ++ (⟨#[46]⟩ : ByteArray)) ++ t297) ++ (⟨#[46]⟩ : ByteArray)) ++ t298) ++ (⟨#[46]⟩ : ByteArray)).size + t299.size ≤ 9223372036854775807 then ((addr_V4.f ((((((t296 ++ (⟨#[46]⟩ : ByteArray)) ++ t297) ++ (⟨#[46]⟩ : ByteArray)) ++ t298) ++ (⟨#[46]⟩ : ByteArray)) ++ t299)).bind fun bt300 => ((bastionlaw07_AddrBytes_1.f a0).bind fun t302 => (if t302.size + 1 ≤ 9223372036854775807 then ((bastionlaw07_AddrBytes_2.f a1).bind fun t303 => (if (t302 ++ (⟨#[46]⟩ : ByteArray)).size + t303.size ≤ 9223372036854775807 then (if ((t302 ++ (⟨#[46]⟩ : ByteArray)) ++ t303).size + 1 ≤ 9223372036854775807 then ((bastionlaw07_AddrBytes_1.f a2).bind fun t304 => (if (((t302 ++ (⟨#[46]⟩ : ByteArray)) ++ t303) ++ (⟨#[46]⟩ : ByteArray)).size + t304.size ≤ 9223372036854775807 then ((bastionlaw07_AddrBytes_2.f a3).bind fun t305 => (if 0 ≤ 0 then (if 0 ≤ (t305.size : Int) then (if ((((t302 ++ (⟨#[46]⟩ : ByteArray)) ++ t303) ++ (⟨#[46]⟩ : ByteArray)) ++ t304).size + (t305.extract 0 0).size ≤ 9223372036854775807 then (if (((((t302 ++ (⟨#[46]⟩ : ByteArray)) ++ t303) ++ (⟨#[46]⟩ : ByteArray)) ++ t304)).size + 1 ≤ 9223372036854775807 then ((bastionlaw07_AddrBytes_1.f a3).bind fun t306 => (if ((((((t302 ++ (⟨#[46]⟩ : ByteArray)) ++ t303) ++ (⟨#[46]⟩ : ByteArray)) ++ t304)) ++ (⟨#[46]⟩ : ByteArray)).size + t306.size ≤ 9223372036854775807 then ((addr_V4.f (((((((t302 ++ (⟨#[46]⟩ : ByteArray)) ++ t303) ++ (⟨#[46]⟩ : ByteArray)) ++ t304)) ++ (⟨#[46]⟩ : ByteArray)) ++ t306)).bind fun bt307 => (if bt300.1 = (Go.bits .or .u32 (Go.bits .or .u32 (Go.bits .or .u32 ((((a0) % 4294967296) * 16777216) % 4294967296) ((((a1) % 4294967296) * 65536) % 4294967296)) ((((a2) % 4294967296) * 256) % 4294967296)) ((a3) % 4294967296)) then (if bt300.2 = 0 then (if bt307.1 = (Go.bits .or .u32 (Go.bits .or .u32 (Go.bits .or .u32 ((((a0) % 4294967296) * 16777216) % 4294967296) ((((a1) % 4294967296) * 65536) % 4294967296)) ((((a2) % 4294967296) * 256) % 4294967296)) ((a3) % 4294967296)) then (some (bt307.2 == 0)) else (some false)) else (some false)) else (some false))) else (none))) else (none)) else (none)) else (none)) else (none))) else (none))) else (none)) else (none))) else (none)))) else (none))) else (none)) else (none))) else (none)) else (none))) else (none)) = some r := H
    have A7 := Aside0.mk A70
    clear A70
    by_cases c8 : t296.size + 1 ≤ 9223372036854775807
    · rw [if_pos c8] at H
      have c8b0 := eq_true c8
      have c8b1 : decide (t296.size + 1 ≤ 9223372036854775807) = true := decide_eq_true c8
      try have c8b2 : (9223372036854775807 < t296.size + 1) = False := eq_false (Nat.not_lt.2 c8)
      replace H := Option.bind_eq_some_iff.mp H
      obtain ⟨t297, A90, H⟩ := H
      replace H : (if (t296 ++ (⟨#[46]⟩ : ByteArray)).size + t297.size ≤ 9223372036854775807 then (if ((t296 ++ (⟨#[46]⟩ : ByteArray)) ++ t297).size + 1 ≤ 9223372036854775807 then ((bastionlaw07_AddrBytes_1.f a2).bind fun t298 => (if (((t296 ++ (⟨#[46]⟩ : ByteArray)) ++ t297) ++ (⟨#[46]⟩ : ByteArray)).size + t298.size ≤ 9223372036854775807 then (if ((((t296 ++ (⟨#[46]⟩ : ByteArray)) ++ t297) ++ (⟨#[46]⟩ : ByteArray)) ++ t298).size + 1 ≤ 9223372036854775807 then ((bastionlaw07_AddrBytes_2.f a3).bind fun t299 => (if (((((t296 ++ (⟨#[46]⟩ : ByteArray)) ++ t297) ++ (⟨#[46]⟩ : ByteArray)) ++ t298) ++ (⟨#[46]⟩ : ByteArray)).size + t299.size ≤ 9223372036854775807 then ((addr_V4.f ((((((t296 ++ (⟨#[46]⟩ : ByteArray)) ++ t297) ++ (⟨#[46]⟩ : ByteArray)) ++ t298) ++ (⟨#[46]⟩ : ByteArray)) ++ t299)).bind fun bt300 => ((bastionlaw07_AddrBytes_1.f a0).bind fun t302 => (if t302.size + 1 ≤ 9223372036854775807 then ((bastionlaw07_AddrBytes_2.f a1).bind fun t303 => (if (t302 ++ (⟨#[46]⟩ : ByteArray)).size + t303.size ≤ 9223372036854775807 then (if ((t302 ++ (⟨#[46]⟩ : ByteArray)) ++ t303).size + 1 ≤ 9223372036854775807 then ((bastionlaw07_AddrBytes_1.f a2).bind fun t304 => (if (((t302 ++ (⟨#[46]⟩ : ByteArray)) ++ t303) ++ (⟨#[46]⟩ : ByteArray)).size + t304.size ≤ 9223372036854775807 then ((bastionlaw07_AddrBytes_2.f a3).bind fun t305 => (if 0 ≤ 0 then (if 0 ≤ (t305.size : Int) then (if ((((t302 ++ (⟨#[46]⟩ : ByteArray)) ++ t303) ++ (⟨#[46]⟩ : ByteArray)) ++ t304).size + (t305.extract 0 0).size ≤ 9223372036854775807 then (if (((((t302 ++ (⟨#[46]⟩ : ByteArray)) ++ t303) ++ (⟨#[46]⟩ : ByteArray)) ++ t304)).size + 1 ≤ 9223372036854775807 then ((bastionlaw07_AddrBytes_1.f a3).bind fun t306 => (if ((((((t302 ++ (⟨#[46]⟩ : ByteArray)) ++ t303) ++ (⟨#[46]⟩ : ByteArray)) ++ t304)) ++ (⟨#[46]⟩ : ByteArray)).size + t306.size ≤ 9223372036854775807 then ((addr_V4.f (((((((t302 ++ (⟨#[46]⟩ : ByteArray)) ++ t303) ++ (⟨#[46]⟩ : ByteArray)) ++ t304)) ++ (⟨#[46]⟩ : ByteArray)) ++ t306)).bind fun bt307 => (if bt300.1 = (Go.bits .or .u32 (Go.bits .or .u32 (Go.bits .or .u32 ((((a0) % 4294967296) * 16777216) % 4294967296) ((((a1) % 4294967296) * 65536) % 4294967296)) ((((a2) % 4294967296) * 256) % 4294967296)) ((a3) % 4294967296)) then (if bt300.2 = 0 then (if bt307.1 = (Go.bits .or .u32 (Go.bits .or .u32 (Go.bits .or .u32 ((((a0) % 4294967296) * 16777216) % 4294967296) ((((a1) % 4294967296) * 65536) % 4294967296)) ((((a2) % 4294967296) * 256) % 4294967296)) ((a3) % 4294967296)) then (some (bt307.2 == 0)) else (some false)) else (some false)) else (some false))) else (none))) else (none)) else (none)) else (none)) else (none))) else (none))) else (none)) else (none))) else (none)))) else (none))) else (none)) else (none))) else (none)) else (none)) = some r := H
      have A9 := Aside0.mk A90
      clear A90
      by_cases c10 : (t296 ++ (⟨#[46]⟩ : ByteArray)).size + t297.size ≤ 9223372036854775807
      · rw [if_pos c10] at H
        have c10b0 := eq_true c10
        have c10b1 : decide ((t296 ++ (⟨#[46]⟩ : ByteArray)).size + t297.size ≤ 9223372036854775807) = true := decide_eq_true c10
        try have c10b2 : (9223372036854775807 < (t296 ++ (⟨#[46]⟩ : ByteArray)).size + t297.size) = False := eq_false (Nat.not_lt.2 c10)
        try (have c10b3 := c10b2; simp only [ByteArray.size_append, show (⟨#[46]⟩ : ByteArray).size = 1 from rfl] at c10b3)
        by_cases c11 : ((t296 ++ (⟨#[46]⟩ : ByteArray)) ++ t297).size + 1 ≤ 9223372036854775807
        · rw [if_pos c11] at H
          have c11b0 := eq_true c11
          have c11b1 : decide (((t296 ++ (⟨#[46]⟩ : ByteArray)) ++ t297).size + 1 ≤ 9223372036854775807) = true := decide_eq_true c11
          try have c11b2 : (9223372036854775807 < ((t296 ++ (⟨#[46]⟩ : ByteArray)) ++ t297).size + 1) = False := eq_false (Nat.not_lt.2 c11)
          try (have c11b3 := c11b2; simp only [ByteArray.size_append, show (⟨#[46]⟩ : ByteArray).size = 1 from rfl] at c11b3)
          replace H := Option.bind_eq_some_iff.mp H
          obtain ⟨t298, A120, H⟩ := H
          replace H : (if (((t296 ++ (⟨#[46]⟩ : ByteArray)) ++ t297) ++ (⟨#[46]⟩ : ByteArray)).size + t298.size ≤ 9223372036854775807 then (if ((((t296 ++ (⟨#[46]⟩ : ByteArray)) ++ t297) ++ (⟨#[46]⟩ : ByteArray)) ++ t298).size + 1 ≤ 9223372036854775807 then ((bastionlaw07_AddrBytes_2.f a3).bind fun t299 => (if (((((t296 ++ (⟨#[46]⟩ : ByteArray)) ++ t297) ++ (⟨#[46]⟩ : ByteArray)) ++ t298) ++ (⟨#[46]⟩ : ByteArray)).size + t299.size ≤ 9223372036854775807 then ((addr_V4.f ((((((t296 ++ (⟨#[46]⟩ : ByteArray)) ++ t297) ++ (⟨#[46]⟩ : ByteArray)) ++ t298) ++ (⟨#[46]⟩ : ByteArray)) ++ t299)).bind fun bt300 => ((bastionlaw07_AddrBytes_1.f a0).bind fun t302 => (if t302.size + 1 ≤ 9223372036854775807 then ((bastionlaw07_AddrBytes_2.f a1).bind fun t303 => (if (t302 ++ (⟨#[46]⟩ : ByteArray)).size + t303.size ≤ 9223372036854775807 then (if ((t302 ++ (⟨#[46]⟩ : ByteArray)) ++ t303).size + 1 ≤ 9223372036854775807 then ((bastionlaw07_AddrBytes_1.f a2).bind fun t304 => (if (((t302 ++ (⟨#[46]⟩ : ByteArray)) ++ t303) ++ (⟨#[46]⟩ : ByteArray)).size + t304.size ≤ 9223372036854775807 then ((bastionlaw07_AddrBytes_2.f a3).bind fun t305 => (if 0 ≤ 0 then (if 0 ≤ (t305.size : Int) then (if ((((t302 ++ (⟨#[46]⟩ : ByteArray)) ++ t303) ++ (⟨#[46]⟩ : ByteArray)) ++ t304).size + (t305.extract 0 0).size ≤ 9223372036854775807 then (if (((((t302 ++ (⟨#[46]⟩ : ByteArray)) ++ t303) ++ (⟨#[46]⟩ : ByteArray)) ++ t304)).size + 1 ≤ 9223372036854775807 then ((bastionlaw07_AddrBytes_1.f a3).bind fun t306 => (if ((((((t302 ++ (⟨#[46]⟩ : ByteArray)) ++ t303) ++ (⟨#[46]⟩ : ByteArray)) ++ t304)) ++ (⟨#[46]⟩ : ByteArray)).size + t306.size ≤ 9223372036854775807 then ((addr_V4.f (((((((t302 ++ (⟨#[46]⟩ : ByteArray)) ++ t303) ++ (⟨#[46]⟩ : ByteArray)) ++ t304)) ++ (⟨#[46]⟩ : ByteArray)) ++ t306)).bind fun bt307 => (if bt300.1 = (Go.bits .or .u32 (Go.bits .or .u32 (Go.bits .or .u32 ((((a0) % 4294967296) * 16777216) % 4294967296) ((((a1) % 4294967296) * 65536) % 4294967296)) ((((a2) % 4294967296) * 256) % 4294967296)) ((a3) % 4294967296)) then (if bt300.2 = 0 then (if bt307.1 = (Go.bits .or .u32 (Go.bits .or .u32 (Go.bits .or .u32 ((((a0) % 4294967296) * 16777216) % 4294967296) ((((a1) % 4294967296) * 65536) % 4294967296)) ((((a2) % 4294967296) * 256) % 4294967296)) ((a3) % 4294967296)) then (some (bt307.2 == 0)) else (some false)) else (some false)) else (some false))) else (none))) else (none)) else (none)) else (none)) else (none))) else (none))) else (none)) else (none))) else (none)))) else (none))) else (none)) else (none)) = some r := H
          have A12 := Aside0.mk A120
          clear A120
          by_cases c13 : (((t296 ++ (⟨#[46]⟩ : ByteArray)) ++ t297) ++ (⟨#[46]⟩ : ByteArray)).size + t298.size ≤ 9223372036854775807
          · rw [if_pos c13] at H
            have c13b0 := eq_true c13
            have c13b1 : decide ((((t296 ++ (⟨#[46]⟩ : ByteArray)) ++ t297) ++ (⟨#[46]⟩ : ByteArray)).size + t298.size ≤ 9223372036854775807) = true := decide_eq_true c13
            try have c13b2 : (9223372036854775807 < (((t296 ++ (⟨#[46]⟩ : ByteArray)) ++ t297) ++ (⟨#[46]⟩ : ByteArray)).size + t298.size) = False := eq_false (Nat.not_lt.2 c13)
            try (have c13b3 := c13b2; simp only [ByteArray.size_append, show (⟨#[46]⟩ : ByteArray).size = 1 from rfl] at c13b3)
            by_cases c14 : ((((t296 ++ (⟨#[46]⟩ : ByteArray)) ++ t297) ++ (⟨#[46]⟩ : ByteArray)) ++ t298).size + 1 ≤ 9223372036854775807
            · rw [if_pos c14] at H
              have c14b0 := eq_true c14
              have c14b1 : decide (((((t296 ++ (⟨#[46]⟩ : ByteArray)) ++ t297) ++ (⟨#[46]⟩ : ByteArray)) ++ t298).size + 1 ≤ 9223372036854775807) = true := decide_eq_true c14
              try have c14b2 : (9223372036854775807 < ((((t296 ++ (⟨#[46]⟩ : ByteArray)) ++ t297) ++ (⟨#[46]⟩ : ByteArray)) ++ t298).size + 1) = False := eq_false (Nat.not_lt.2 c14)
              try (have c14b3 := c14b2; simp only [ByteArray.size_append, show (⟨#[46]⟩ : ByteArray).size = 1 from rfl] at c14b3)
              replace H := Option.bind_eq_some_iff.mp H
              obtain ⟨t299, A150, H⟩ := H
              replace H : (if (((((t296 ++ (⟨#[46]⟩ : ByteArray)) ++ t297) ++ (⟨#[46]⟩ : ByteArray)) ++ t298) ++ (⟨#[46]⟩ : ByteArray)).size + t299.size ≤ 9223372036854775807 then ((addr_V4.f ((((((t296 ++ (⟨#[46]⟩ : ByteArray)) ++ t297) ++ (⟨#[46]⟩ : ByteArray)) ++ t298) ++ (⟨#[46]⟩ : ByteArray)) ++ t299)).bind fun bt300 => ((bastionlaw07_AddrBytes_1.f a0).bind fun t302 => (if t302.size + 1 ≤ 9223372036854775807 then ((bastionlaw07_AddrBytes_2.f a1).bind fun t303 => (if (t302 ++ (⟨#[46]⟩ : ByteArray)).size + t303.size ≤ 9223372036854775807 then (if ((t302 ++ (⟨#[46]⟩ : ByteArray)) ++ t303).size + 1 ≤ 9223372036854775807 then ((bastionlaw07_AddrBytes_1.f a2).bind fun t304 => (if (((t302 ++ (⟨#[46]⟩ : ByteArray)) ++ t303) ++ (⟨#[46]⟩ : ByteArray)).size + t304.size ≤ 9223372036854775807 then ((bastionlaw07_AddrBytes_2.f a3).bind fun t305 => (if 0 ≤ 0 then (if 0 ≤ (t305.size : Int) then (if ((((t302 ++ (⟨#[46]⟩ : ByteArray)) ++ t303) ++ (⟨#[46]⟩ : ByteArray)) ++ t304).size + (t305.extract 0 0).size ≤ 9223372036854775807 then (if (((((t302 ++ (⟨#[46]⟩ : ByteArray)) ++ t303) ++ (⟨#[46]⟩ : ByteArray)) ++ t304)).size + 1 ≤ 9223372036854775807 then ((bastionlaw07_AddrBytes_1.f a3).bind fun t306 => (if ((((((t302 ++ (⟨#[46]⟩ : ByteArray)) ++ t303) ++ (⟨#[46]⟩ : ByteArray)) ++ t304)) ++ (⟨#[46]⟩ : ByteArray)).size + t306.size ≤ 9223372036854775807 then ((addr_V4.f (((((((t302 ++ (⟨#[46]⟩ : ByteArray)) ++ t303) ++ (⟨#[46]⟩ : ByteArray)) ++ t304)) ++ (⟨#[46]⟩ : ByteArray)) ++ t306)).bind fun bt307 => (if bt300.1 = (Go.bits .or .u32 (Go.bits .or .u32 (Go.bits .or .u32 ((((a0) % 4294967296) * 16777216) % 4294967296) ((((a1) % 4294967296) * 65536) % 4294967296)) ((((a2) % 4294967296) * 256) % 4294967296)) ((a3) % 4294967296)) then (if bt300.2 = 0 then (if bt307.1 = (Go.bits .or .u32 (Go.bits .or .u32 (Go.bits .or .u32 ((((a0) % 4294967296) * 16777216) % 4294967296) ((((a1) % 4294967296) * 65536) % 4294967296)) ((((a2) % 4294967296) * 256) % 4294967296)) ((a3) % 4294967296)) then (some (bt307.2 == 0)) else (some false)) else (some false)) else (some false))) else (none))) else (none)) else (none)) else (none)) else (none))) else (none))) else (none)) else (none))) else (none)))) else (none)) = some r := H
              have A15 := Aside0.mk A150
              clear A150
              by_cases c16 : (((((t296 ++ (⟨#[46]⟩ : ByteArray)) ++ t297) ++ (⟨#[46]⟩ : ByteArray)) ++ t298) ++ (⟨#[46]⟩ : ByteArray)).size + t299.size ≤ 9223372036854775807
              · rw [if_pos c16] at H
                have c16b0 := eq_true c16
                have c16b1 : decide ((((((t296 ++ (⟨#[46]⟩ : ByteArray)) ++ t297) ++ (⟨#[46]⟩ : ByteArray)) ++ t298) ++ (⟨#[46]⟩ : ByteArray)).size + t299.size ≤ 9223372036854775807) = true := decide_eq_true c16
                try have c16b2 : (9223372036854775807 < (((((t296 ++ (⟨#[46]⟩ : ByteArray)) ++ t297) ++ (⟨#[46]⟩ : ByteArray)) ++ t298) ++ (⟨#[46]⟩ : ByteArray)).size + t299.size) = False := eq_false (Nat.not_lt.2 c16)
                try (have c16b3 := c16b2; simp only [ByteArray.size_append, show (⟨#[46]⟩ : ByteArray).size = 1 from rfl] at c16b3)
                replace H := Option.bind_eq_some_iff.mp H
                obtain ⟨⟨t300, t301⟩, A170, H⟩ := H
                replace H : ((bastionlaw07_AddrBytes_1.f a0).bind fun t302 => (if t302.size + 1 ≤ 9223372036854775807 then ((bastionlaw07_AddrBytes_2.f a1).bind fun t303 => (if (t302 ++ (⟨#[46]⟩ : ByteArray)).size + t303.size ≤ 9223372036854775807 then (if ((t302 ++ (⟨#[46]⟩ : ByteArray)) ++ t303).size + 1 ≤ 9223372036854775807 then ((bastionlaw07_AddrBytes_1.f a2).bind fun t304 => (if (((t302 ++ (⟨#[46]⟩ : ByteArray)) ++ t303) ++ (⟨#[46]⟩ : ByteArray)).size + t304.size ≤ 9223372036854775807 then ((bastionlaw07_AddrBytes_2.f a3).bind fun t305 => (if 0 ≤ 0 then (if 0 ≤ (t305.size : Int) then (if ((((t302 ++ (⟨#[46]⟩ : ByteArray)) ++ t303) ++ (⟨#[46]⟩ : ByteArray)) ++ t304).size + (t305.extract 0 0).size ≤ 9223372036854775807 then (if (((((t302 ++ (⟨#[46]⟩ : ByteArray)) ++ t303) ++ (⟨#[46]⟩ : ByteArray)) ++ t304)).size + 1 ≤ 9223372036854775807 then ((bastionlaw07_AddrBytes_1.f a3).bind fun t306 => (if ((((((t302 ++ (⟨#[46]⟩ : ByteArray)) ++ t303) ++ (⟨#[46]⟩ : ByteArray)) ++ t304)) ++ (⟨#[46]⟩ : ByteArray)).size + t306.size ≤ 9223372036854775807 then ((addr_V4.f (((((((t302 ++ (⟨#[46]⟩ : ByteArray)) ++ t303) ++ (⟨#[46]⟩ : ByteArray)) ++ t304)) ++ (⟨#[46]⟩ : ByteArray)) ++ t306)).bind fun bt307 => (if t300 = (Go.bits .or .u32 (Go.bits .or .u32 (Go.bits .or .u32 ((((a0) % 4294967296) * 16777216) % 4294967296) ((((a1) % 4294967296) * 65536) % 4294967296)) ((((a2) % 4294967296) * 256) % 4294967296)) ((a3) % 4294967296)) then (if t301 = 0 then (if bt307.1 = (Go.bits .or .u32 (Go.bits .or .u32 (Go.bits .or .u32 ((((a0) % 4294967296) * 16777216) % 4294967296) ((((a1) % 4294967296) * 65536) % 4294967296)) ((((a2) % 4294967296) * 256) % 4294967296)) ((a3) % 4294967296)) then (some (bt307.2 == 0)) else (some false)) else (some false)) else (some false))) else (none))) else (none)) else (none)) else (none)) else (none))) else (none))) else (none)) else (none))) else (none))) = some r := H
                have A17 := Aside0.mk A170
                clear A170
                replace H := Option.bind_eq_some_iff.mp H
                obtain ⟨t302, A180, H⟩ := H
                replace H : (if t302.size + 1 ≤ 9223372036854775807 then ((bastionlaw07_AddrBytes_2.f a1).bind fun t303 => (if (t302 ++ (⟨#[46]⟩ : ByteArray)).size + t303.size ≤ 9223372036854775807 then (if ((t302 ++ (⟨#[46]⟩ : ByteArray)) ++ t303).size + 1 ≤ 9223372036854775807 then ((bastionlaw07_AddrBytes_1.f a2).bind fun t304 => (if (((t302 ++ (⟨#[46]⟩ : ByteArray)) ++ t303) ++ (⟨#[46]⟩ : ByteArray)).size + t304.size ≤ 9223372036854775807 then ((bastionlaw07_AddrBytes_2.f a3).bind fun t305 => (if 0 ≤ 0 then (if 0 ≤ (t305.size : Int) then (if ((((t302 ++ (⟨#[46]⟩ : ByteArray)) ++ t303) ++ (⟨#[46]⟩ : ByteArray)) ++ t304).size + (t305.extract 0 0).size ≤ 9223372036854775807 then (if (((((t302 ++ (⟨#[46]⟩ : ByteArray)) ++ t303) ++ (⟨#[46]⟩ : ByteArray)) ++ t304)).size + 1 ≤ 9223372036854775807 then ((bastionlaw07_AddrBytes_1.f a3).bind fun t306 => (if ((((((t302 ++ (⟨#[46]⟩ : ByteArray)) ++ t303) ++ (⟨#[46]⟩ : ByteArray)) ++ t304)) ++ (⟨#[46]⟩ : ByteArray)).size + t306.size ≤ 9223372036854775807 then ((addr_V4.f (((((((t302 ++ (⟨#[46]⟩ : ByteArray)) ++ t303) ++ (⟨#[46]⟩ : ByteArray)) ++ t304)) ++ (⟨#[46]⟩ : ByteArray)) ++ t306)).bind fun bt307 => (if t300 = (Go.bits .or .u32 (Go.bits .or .u32 (Go.bits .or .u32 ((((a0) % 4294967296) * 16777216) % 4294967296) ((((a1) % 4294967296) * 65536) % 4294967296)) ((((a2) % 4294967296) * 256) % 4294967296)) ((a3) % 4294967296)) then (if t301 = 0 then (if bt307.1 = (Go.bits .or .u32 (Go.bits .or .u32 (Go.bits .or .u32 ((((a0) % 4294967296) * 16777216) % 4294967296) ((((a1) % 4294967296) * 65536) % 4294967296)) ((((a2) % 4294967296) * 256) % 4294967296)) ((a3) % 4294967296)) then (some (bt307.2 == 0)) else (some false)) else (some false)) else (some false))) else (none))) else (none)) else (none)) else (none)) else (none))) else (none))) else (none)) else (none))) else (none)) = some r := H
                have A18 := Aside0.mk A180
                obtain rfl := Option.some.inj (A7.out.symm.trans A180)
                clear A180
                by_cases c19 : t296.size + 1 ≤ 9223372036854775807
                · rw [if_pos c19] at H
                  have c19b0 := eq_true c19
                  have c19b1 : decide (t296.size + 1 ≤ 9223372036854775807) = true := decide_eq_true c19
                  try have c19b2 : (9223372036854775807 < t296.size + 1) = False := eq_false (Nat.not_lt.2 c19)
                  replace H := Option.bind_eq_some_iff.mp H
                  obtain ⟨t303, A200, H⟩ := H
                  replace H : (if (t296 ++ (⟨#[46]⟩ : ByteArray)).size + t303.size ≤ 9223372036854775807 then (if ((t296 ++ (⟨#[46]⟩ : ByteArray)) ++ t303).size + 1 ≤ 9223372036854775807 then ((bastionlaw07_AddrBytes_1.f a2).bind fun t304 => (if (((t296 ++ (⟨#[46]⟩ : ByteArray)) ++ t303) ++ (⟨#[46]⟩ : ByteArray)).size + t304.size ≤ 9223372036854775807 then ((bastionlaw07_AddrBytes_2.f a3).bind fun t305 => (if 0 ≤ 0 then (if 0 ≤ (t305.size : Int) then (if ((((t296 ++ (⟨#[46]⟩ : ByteArray)) ++ t303) ++ (⟨#[46]⟩ : ByteArray)) ++ t304).size + (t305.extract 0 0).size ≤ 9223372036854775807 then (if (((((t296 ++ (⟨#[46]⟩ : ByteArray)) ++ t303) ++ (⟨#[46]⟩ : ByteArray)) ++ t304)).size + 1 ≤ 9223372036854775807 then ((bastionlaw07_AddrBytes_1.f a3).bind fun t306 => (if ((((((t296 ++ (⟨#[46]⟩ : ByteArray)) ++ t303) ++ (⟨#[46]⟩ : ByteArray)) ++ t304)) ++ (⟨#[46]⟩ : ByteArray)).size + t306.size ≤ 9223372036854775807 then ((addr_V4.f (((((((t296 ++ (⟨#[46]⟩ : ByteArray)) ++ t303) ++ (⟨#[46]⟩ : ByteArray)) ++ t304)) ++ (⟨#[46]⟩ : ByteArray)) ++ t306)).bind fun bt307 => (if t300 = (Go.bits .or .u32 (Go.bits .or .u32 (Go.bits .or .u32 ((((a0) % 4294967296) * 16777216) % 4294967296) ((((a1) % 4294967296) * 65536) % 4294967296)) ((((a2) % 4294967296) * 256) % 4294967296)) ((a3) % 4294967296)) then (if t301 = 0 then (if bt307.1 = (Go.bits .or .u32 (Go.bits .or .u32 (Go.bits .or .u32 ((((a0) % 4294967296) * 16777216) % 4294967296) ((((a1) % 4294967296) * 65536) % 4294967296)) ((((a2) % 4294967296) * 256) % 4294967296)) ((a3) % 4294967296)) then (some (bt307.2 == 0)) else (some false)) else (some false)) else (some false))) else (none))) else (none)) else (none)) else (none)) else (none))) else (none))) else (none)) else (none)) = some r := H
                  have A20 := Aside0.mk A200
                  obtain rfl := Option.some.inj (A9.out.symm.trans A200)
                  clear A200
                  by_cases c21 : (t296 ++ (⟨#[46]⟩ : ByteArray)).size + t297.size ≤ 9223372036854775807
                  · rw [if_pos c21] at H
                    have c21b0 := eq_true c21
                    have c21b1 : decide ((t296 ++ (⟨#[46]⟩ : ByteArray)).size + t297.size ≤ 9223372036854775807) = true := decide_eq_true c21
                    try have c21b2 : (9223372036854775807 < (t296 ++ (⟨#[46]⟩ : ByteArray)).size + t297.size) = False := eq_false (Nat.not_lt.2 c21)
                    try (have c21b3 := c21b2; simp only [ByteArray.size_append, show (⟨#[46]⟩ : ByteArray).size = 1 from rfl] at c21b3)
                    by_cases c22 : ((t296 ++ (⟨#[46]⟩ : ByteArray)) ++ t297).size + 1 ≤ 9223372036854775807
                    · rw [if_pos c22] at H
                      have c22b0 := eq_true c22
                      have c22b1 : decide (((t296 ++ (⟨#[46]⟩ : ByteArray)) ++ t297).size + 1 ≤ 9223372036854775807) = true := decide_eq_true c22
                      try have c22b2 : (9223372036854775807 < ((t296 ++ (⟨#[46]⟩ : ByteArray)) ++ t297).size + 1) = False := eq_false (Nat.not_lt.2 c22)
                      try (have c22b3 := c22b2; simp only [ByteArray.size_append, show (⟨#[46]⟩ : ByteArray).size = 1 from rfl] at c22b3)
                      replace H := Option.bind_eq_some_iff.mp H
                      obtain ⟨t304, A230, H⟩ := H
                      replace H : (if (((t296 ++ (⟨#[46]⟩ : ByteArray)) ++ t297) ++ (⟨#[46]⟩ : ByteArray)).size + t304.size ≤ 9223372036854775807 then ((bastionlaw07_AddrBytes_2.f a3).bind fun t305 => (if 0 ≤ 0 then (if 0 ≤ (t305.size : Int) then (if ((((t296 ++ (⟨#[46]⟩ : ByteArray)) ++ t297) ++ (⟨#[46]⟩ : ByteArray)) ++ t304).size + (t305.extract 0 0).size ≤ 9223372036854775807 then (if (((((t296 ++ (⟨#[46]⟩ : ByteArray)) ++ t297) ++ (⟨#[46]⟩ : ByteArray)) ++ t304)).size + 1 ≤ 9223372036854775807 then ((bastionlaw07_AddrBytes_1.f a3).bind fun t306 => (if ((((((t296 ++ (⟨#[46]⟩ : ByteArray)) ++ t297) ++ (⟨#[46]⟩ : ByteArray)) ++ t304)) ++ (⟨#[46]⟩ : ByteArray)).size + t306.size ≤ 9223372036854775807 then ((addr_V4.f (((((((t296 ++ (⟨#[46]⟩ : ByteArray)) ++ t297) ++ (⟨#[46]⟩ : ByteArray)) ++ t304)) ++ (⟨#[46]⟩ : ByteArray)) ++ t306)).bind fun bt307 => (if t300 = (Go.bits .or .u32 (Go.bits .or .u32 (Go.bits .or .u32 ((((a0) % 4294967296) * 16777216) % 4294967296) ((((a1) % 4294967296) * 65536) % 4294967296)) ((((a2) % 4294967296) * 256) % 4294967296)) ((a3) % 4294967296)) then (if t301 = 0 then (if bt307.1 = (Go.bits .or .u32 (Go.bits .or .u32 (Go.bits .or .u32 ((((a0) % 4294967296) * 16777216) % 4294967296) ((((a1) % 4294967296) * 65536) % 4294967296)) ((((a2) % 4294967296) * 256) % 4294967296)) ((a3) % 4294967296)) then (some (bt307.2 == 0)) else (some false)) else (some false)) else (some false))) else (none))) else (none)) else (none)) else (none)) else (none))) else (none)) = some r := H
                      have A23 := Aside0.mk A230
                      obtain rfl := Option.some.inj (A12.out.symm.trans A230)
                      clear A230
                      by_cases c24 : (((t296 ++ (⟨#[46]⟩ : ByteArray)) ++ t297) ++ (⟨#[46]⟩ : ByteArray)).size + t298.size ≤ 9223372036854775807
                      · rw [if_pos c24] at H
                        have c24b0 := eq_true c24
                        have c24b1 : decide ((((t296 ++ (⟨#[46]⟩ : ByteArray)) ++ t297) ++ (⟨#[46]⟩ : ByteArray)).size + t298.size ≤ 9223372036854775807) = true := decide_eq_true c24
                        try have c24b2 : (9223372036854775807 < (((t296 ++ (⟨#[46]⟩ : ByteArray)) ++ t297) ++ (⟨#[46]⟩ : ByteArray)).size + t298.size) = False := eq_false (Nat.not_lt.2 c24)
                        try (have c24b3 := c24b2; simp only [ByteArray.size_append, show (⟨#[46]⟩ : ByteArray).size = 1 from rfl] at c24b3)
                        replace H := Option.bind_eq_some_iff.mp H
                        obtain ⟨t305, A250, H⟩ := H
                        replace H : (if 0 ≤ 0 then (if 0 ≤ (t305.size : Int) then (if ((((t296 ++ (⟨#[46]⟩ : ByteArray)) ++ t297) ++ (⟨#[46]⟩ : ByteArray)) ++ t298).size + (t305.extract 0 0).size ≤ 9223372036854775807 then (if (((((t296 ++ (⟨#[46]⟩ : ByteArray)) ++ t297) ++ (⟨#[46]⟩ : ByteArray)) ++ t298)).size + 1 ≤ 9223372036854775807 then ((bastionlaw07_AddrBytes_1.f a3).bind fun t306 => (if ((((((t296 ++ (⟨#[46]⟩ : ByteArray)) ++ t297) ++ (⟨#[46]⟩ : ByteArray)) ++ t298)) ++ (⟨#[46]⟩ : ByteArray)).size + t306.size ≤ 9223372036854775807 then ((addr_V4.f (((((((t296 ++ (⟨#[46]⟩ : ByteArray)) ++ t297) ++ (⟨#[46]⟩ : ByteArray)) ++ t298)) ++ (⟨#[46]⟩ : ByteArray)) ++ t306)).bind fun bt307 => (if t300 = (Go.bits .or .u32 (Go.bits .or .u32 (Go.bits .or .u32 ((((a0) % 4294967296) * 16777216) % 4294967296) ((((a1) % 4294967296) * 65536) % 4294967296)) ((((a2) % 4294967296) * 256) % 4294967296)) ((a3) % 4294967296)) then (if t301 = 0 then (if bt307.1 = (Go.bits .or .u32 (Go.bits .or .u32 (Go.bits .or .u32 ((((a0) % 4294967296) * 16777216) % 4294967296) ((((a1) % 4294967296) * 65536) % 4294967296)) ((((a2) % 4294967296) * 256) % 4294967296)) ((a3) % 4294967296)) then (some (bt307.2 == 0)) else (some false)) else (some false)) else (some false))) else (none))) else (none)) else (none)) else (none)) else (none)) = some r := H
                        have A25 := Aside0.mk A250
                        obtain rfl := Option.some.inj (A15.out.symm.trans A250)
                        clear A250
                        by_cases c26 : 0 ≤ 0
                        · rw [if_pos c26] at H
                          have c26b0 := eq_true c26
                          have c26b1 : decide (0 ≤ 0) = true := decide_eq_true c26
                          clear c26
                          by_cases c27 : 0 ≤ (t299.size : Int)
                          · rw [if_pos c27] at H
                            have c27b0 := eq_true c27
                            have c27b1 : decide (0 ≤ (t299.size : Int)) = true := decide_eq_true c27
                            clear c27
                            by_cases c28 : ((((t296 ++ (⟨#[46]⟩ : ByteArray)) ++ t297) ++ (⟨#[46]⟩ : ByteArray)) ++ t298).size + (t299.extract 0 0).size ≤ 9223372036854775807
                            · rw [if_pos c28] at H
                              have c28b0 := eq_true c28
                              have c28b1 : decide (((((t296 ++ (⟨#[46]⟩ : ByteArray)) ++ t297) ++ (⟨#[46]⟩ : ByteArray)) ++ t298).size + (t299.extract 0 0).size ≤ 9223372036854775807) = true := decide_eq_true c28
                              try have c28b2 : (9223372036854775807 < ((((t296 ++ (⟨#[46]⟩ : ByteArray)) ++ t297) ++ (⟨#[46]⟩ : ByteArray)) ++ t298).size + (t299.extract 0 0).size) = False := eq_false (Nat.not_lt.2 c28)
                              try (have c28b3 := c28b2; simp only [ByteArray.size_append, show (⟨#[46]⟩ : ByteArray).size = 1 from rfl] at c28b3)
                              by_cases c29 : (((((t296 ++ (⟨#[46]⟩ : ByteArray)) ++ t297) ++ (⟨#[46]⟩ : ByteArray)) ++ t298)).size + 1 ≤ 9223372036854775807
                              · rw [if_pos c29] at H
                                have c29b0 := eq_true c29
                                have c29b1 : decide ((((((t296 ++ (⟨#[46]⟩ : ByteArray)) ++ t297) ++ (⟨#[46]⟩ : ByteArray)) ++ t298)).size + 1 ≤ 9223372036854775807) = true := decide_eq_true c29
                                try have c29b2 : (9223372036854775807 < (((((t296 ++ (⟨#[46]⟩ : ByteArray)) ++ t297) ++ (⟨#[46]⟩ : ByteArray)) ++ t298)).size + 1) = False := eq_false (Nat.not_lt.2 c29)
                                try (have c29b3 := c29b2; simp only [ByteArray.size_append, show (⟨#[46]⟩ : ByteArray).size = 1 from rfl] at c29b3)
                                replace H := Option.bind_eq_some_iff.mp H
                                obtain ⟨t306, A300, H⟩ := H
                                replace H : (if ((((((t296 ++ (⟨#[46]⟩ : ByteArray)) ++ t297) ++ (⟨#[46]⟩ : ByteArray)) ++ t298)) ++ (⟨#[46]⟩ : ByteArray)).size + t306.size ≤ 9223372036854775807 then ((addr_V4.f (((((((t296 ++ (⟨#[46]⟩ : ByteArray)) ++ t297) ++ (⟨#[46]⟩ : ByteArray)) ++ t298)) ++ (⟨#[46]⟩ : ByteArray)) ++ t306)).bind fun bt307 => (if t300 = (Go.bits .or .u32 (Go.bits .or .u32 (Go.bits .or .u32 ((((a0) % 4294967296) * 16777216) % 4294967296) ((((a1) % 4294967296) * 65536) % 4294967296)) ((((a2) % 4294967296) * 256) % 4294967296)) ((a3) % 4294967296)) then (if t301 = 0 then (if bt307.1 = (Go.bits .or .u32 (Go.bits .or .u32 (Go.bits .or .u32 ((((a0) % 4294967296) * 16777216) % 4294967296) ((((a1) % 4294967296) * 65536) % 4294967296)) ((((a2) % 4294967296) * 256) % 4294967296)) ((a3) % 4294967296)) then (some (bt307.2 == 0)) else (some false)) else (some false)) else (some false))) else (none)) = some r := H
                                have A30 := Aside0.mk A300
                                clear A300
                                by_cases c31 : ((((((t296 ++ (⟨#[46]⟩ : ByteArray)) ++ t297) ++ (⟨#[46]⟩ : ByteArray)) ++ t298)) ++ (⟨#[46]⟩ : ByteArray)).size + t306.size ≤ 9223372036854775807
                                · rw [if_pos c31] at H
                                  have c31b0 := eq_true c31
                                  have c31b1 : decide (((((((t296 ++ (⟨#[46]⟩ : ByteArray)) ++ t297) ++ (⟨#[46]⟩ : ByteArray)) ++ t298)) ++ (⟨#[46]⟩ : ByteArray)).size + t306.size ≤ 9223372036854775807) = true := decide_eq_true c31
                                  try have c31b2 : (9223372036854775807 < ((((((t296 ++ (⟨#[46]⟩ : ByteArray)) ++ t297) ++ (⟨#[46]⟩ : ByteArray)) ++ t298)) ++ (⟨#[46]⟩ : ByteArray)).size + t306.size) = False := eq_false (Nat.not_lt.2 c31)
                                  try (have c31b3 := c31b2; simp only [ByteArray.size_append, show (⟨#[46]⟩ : ByteArray).size = 1 from rfl] at c31b3)
                                  replace H := Option.bind_eq_some_iff.mp H
                                  obtain ⟨⟨t307, t308⟩, A320, H⟩ := H
                                  replace H : (if t300 = (Go.bits .or .u32 (Go.bits .or .u32 (Go.bits .or .u32 ((((a0) % 4294967296) * 16777216) % 4294967296) ((((a1) % 4294967296) * 65536) % 4294967296)) ((((a2) % 4294967296) * 256) % 4294967296)) ((a3) % 4294967296)) then (if t301 = 0 then (if t307 = (Go.bits .or .u32 (Go.bits .or .u32 (Go.bits .or .u32 ((((a0) % 4294967296) * 16777216) % 4294967296) ((((a1) % 4294967296) * 65536) % 4294967296)) ((((a2) % 4294967296) * 256) % 4294967296)) ((a3) % 4294967296)) then (some (t308 == 0)) else (some false)) else (some false)) else (some false)) = some r := H
                                  have A32 := Aside0.mk A320
                                  clear A320
                                  by_cases c33 : t300 = (Go.bits .or .u32 (Go.bits .or .u32 (Go.bits .or .u32 ((((a0) % 4294967296) * 16777216) % 4294967296) ((((a1) % 4294967296) * 65536) % 4294967296)) ((((a2) % 4294967296) * 256) % 4294967296)) ((a3) % 4294967296))
                                  · rw [if_pos c33] at H
                                    have c33b0 : (t300 == (Go.bits .or .u32 (Go.bits .or .u32 (Go.bits .or .u32 ((((a0) % 4294967296) * 16777216) % 4294967296) ((((a1) % 4294967296) * 65536) % 4294967296)) ((((a2) % 4294967296) * 256) % 4294967296)) ((a3) % 4294967296))) = true := beq_iff_eq.mpr c33
                                    have c33b1 : (t300 != (Go.bits .or .u32 (Go.bits .or .u32 (Go.bits .or .u32 ((((a0) % 4294967296) * 16777216) % 4294967296) ((((a1) % 4294967296) * 65536) % 4294967296)) ((((a2) % 4294967296) * 256) % 4294967296)) ((a3) % 4294967296))) = false := bne_eq_false_iff_eq.mpr c33
                                    clear c33
                                    by_cases c34 : t301 = 0
                                    · rw [if_pos c34] at H
                                      have c34b0 : (t301 == 0) = true := beq_iff_eq.mpr c34
                                      have c34b1 : (t301 != 0) = false := bne_eq_false_iff_eq.mpr c34
                                      clear c34
                                      by_cases c35 : t307 = (Go.bits .or .u32 (Go.bits .or .u32 (Go.bits .or .u32 ((((a0) % 4294967296) * 16777216) % 4294967296) ((((a1) % 4294967296) * 65536) % 4294967296)) ((((a2) % 4294967296) * 256) % 4294967296)) ((a3) % 4294967296))
                                      · rw [if_pos c35] at H
                                        have c35b0 : (t307 == (Go.bits .or .u32 (Go.bits .or .u32 (Go.bits .or .u32 ((((a0) % 4294967296) * 16777216) % 4294967296) ((((a1) % 4294967296) * 65536) % 4294967296)) ((((a2) % 4294967296) * 256) % 4294967296)) ((a3) % 4294967296))) = true := beq_iff_eq.mpr c35
                                        have c35b1 : (t307 != (Go.bits .or .u32 (Go.bits .or .u32 (Go.bits .or .u32 ((((a0) % 4294967296) * 16777216) % 4294967296) ((((a1) % 4294967296) * 65536) % 4294967296)) ((((a2) % 4294967296) * 256) % 4294967296)) ((a3) % 4294967296))) = false := bne_eq_false_iff_eq.mpr c35
                                        clear c35
                                        obtain rfl := Option.some.inj H
                                        go_enter Tryd.func8, Tryd.ntmps8
                                        try go_wp2_with (first | ((with_reducible refine gate_callee (f := 14) rfl ?_); refine goesL_ (some 16) rfl rfl Tryd.func14 (by kernel_rfl) rfl #[] rfl (by (try simp only [List.map_toArray, List.map_cons, List.map_nil]); first | done | rfl | (simp only [List.length_drop, List.length_take]; rfl)) ?_; (with_reducible refine (bastionlaw07_lives.calls k  true _ ?side1 A5.out).mono ?_); (case side1 => exact UTabs.below HTB.out (by repeat (first | (with_reducible first | exact HB.out | apply below_alloc | apply pw_below_drewN | apply below_drew1) | exact HB.out))); rintro e w36 ⟨rfl, hb⟩; refine ⟨_, rfl, ?_⟩; have n0_ := Aside0.mk (below_step (by repeat (first | (with_reducible first | exact HB.out | apply below_alloc | apply pw_below_drewN | apply below_drew1) | exact HB.out)) hb); clear HB; have HB := n0_; clear n0_; (try clear hb); (try clear hb2); (try clear hk); (try clear hi)) | ((with_reducible refine gate_calleeV (t := 33) rfl ?_); refine goesLV_ (some 35) rfl rfl Tryd.func21 (by kernel_rfl) rfl #[.int .u8 a0] rfl rfl (by (try simp only [List.map_toArray, List.map_cons, List.map_nil]); first | done | rfl | (simp only [List.length_drop, List.length_take]; rfl)) ?_; (with_reducible refine (bastionlaw07_AddrBytes_1.calls a0 t296 _ A7.out).mono ?_); rintro e w' ⟨rfl, ⟨nd, rfl⟩⟩; refine ⟨_, rfl, ?_⟩) | ((with_reducible refine gate_calleeV (t := 37) rfl ?_); refine goesLV_ (some 39) rfl rfl Tryd.func22 (by kernel_rfl) rfl #[.int .u8 a1] rfl rfl (by (try simp only [List.map_toArray, List.map_cons, List.map_nil]); first | done | rfl | (simp only [List.length_drop, List.length_take]; rfl)) ?_; (with_reducible refine (bastionlaw07_AddrBytes_2.calls a1 t297 _ A9.out).mono ?_); rintro e w' ⟨rfl, ⟨nd, rfl⟩⟩; refine ⟨_, rfl, ?_⟩) | ((with_reducible refine gate_calleeV (t := 42) rfl ?_); refine goesLV_ (some 44) rfl rfl Tryd.func21 (by kernel_rfl) rfl #[.int .u8 a2] rfl rfl (by (try simp only [List.map_toArray, List.map_cons, List.map_nil]); first | done | rfl | (simp only [List.length_drop, List.length_take]; rfl)) ?_; (with_reducible refine (bastionlaw07_AddrBytes_1.calls a2 t298 _ A12.out).mono ?_); rintro e w' ⟨rfl, ⟨nd, rfl⟩⟩; refine ⟨_, rfl, ?_⟩) | ((with_reducible refine gate_calleeV (t := 47) rfl ?_); refine goesLV_ (some 49) rfl rfl Tryd.func22 (by kernel_rfl) rfl #[.int .u8 a3] rfl rfl (by (try simp only [List.map_toArray, List.map_cons, List.map_nil]); first | done | rfl | (simp only [List.length_drop, List.length_take]; rfl)) ?_; (with_reducible refine (bastionlaw07_AddrBytes_2.calls a3 t299 _ A15.out).mono ?_); rintro e w' ⟨rfl, ⟨nd, rfl⟩⟩; refine ⟨_, rfl, ?_⟩) | ((with_reducible refine gate_callee (f := 10) rfl ?_); refine goesL_ (some 51) rfl rfl Tryd.func10 (by kernel_rfl) rfl #[.string ((((((t296 ++ (⟨#[46]⟩ : ByteArray)) ++ t297) ++ (⟨#[46]⟩ : ByteArray)) ++ t298) ++ (⟨#[46]⟩ : ByteArray)) ++ t299)] rfl (by (try simp only [List.map_toArray, List.map_cons, List.map_nil]); first | done | rfl | (simp only [List.length_drop, List.length_take]; rfl)) ?_; (with_reducible refine (addr_V4.calls ((((((t296 ++ (⟨#[46]⟩ : ByteArray)) ++ t297) ++ (⟨#[46]⟩ : ByteArray)) ++ t298) ++ (⟨#[46]⟩ : ByteArray)) ++ t299) t300 t301 _ ?side1 A17.out).mono ?_); (case side1 => exact UTabs.below HTB.out (by repeat (first | (with_reducible first | exact HB.out | apply below_alloc | apply pw_below_drewN | apply below_drew1) | exact HB.out))); rintro e w37 ⟨rfl, hb⟩; refine ⟨_, rfl, ?_⟩; have n0_ := Aside0.mk (below_step (by repeat (first | (with_reducible first | exact HB.out | apply below_alloc | apply pw_below_drewN | apply below_drew1) | exact HB.out)) hb); clear HB; have HB := n0_; clear n0_; (try clear hb); (try clear hb2); (try clear hk); (try clear hi)))
                                        have n0_ := Aside0.mk (below_drew1 HB.out)
                                        clear HB
                                        have HB := n0_
                                        clear n0_
                                        refine start_ (n := 29) (S := fun w' => True) (ds := []) #[false, false, false, false, false, false, false, false, false, false, false, false, false, false, false, false, false, false, false, false, false, false, false, false, false, false, false, false, false] (by kernel_rfl) rfl rfl trivial (fun hHeld => ?_); refine with_tabW bastionlaw07_AddrBytes.tab7 bastionlaw07_AddrBytes.bits7 (fun HT_ HW_ => ?_)
                                        generalize w37.drew = w38 at HB hHeld ⊢
                                        refine pure_ (i := 0) (N := some 55) (v := ?_) (a' := ?_) #[true, false, false, false, false, false, false, false, false, false, false, false, false, false, false, false, false, false, false, false, false, false, false, false, false, false, false, false, false] rfl rfl (any_of HT_.out (by kernel_rfl)) (fun _ _ _ h => h) (Or.inl ⟨by rfl, ?_⟩) ?_ ?_
                                        rotate_left
                                        · intro w'
                                          go_simp
                                          with_reducible rfl
                                        rotate_left
                                        · simp only [Act.put, List.setIfInBounds_toArray, List.set_cons_zero, List.set_cons_succ, i64_w, i32_w]
                                          rfl
                                        refine pure_ (i := 1) (N := some 56) (v := ?_) (a' := ?_) #[true, true, false, false, false, false, false, false, false, false, false, false, false, false, false, false, false, false, false, false, false, false, false, false, false, false, false, false, false] rfl rfl (any_of HT_.out (by kernel_rfl)) (fun _ _ _ h => h) (Or.inl ⟨by rfl, ?_⟩) ?_ ?_
                                        rotate_left
                                        · intro w'
                                          go_simp
                                          with_reducible rfl
                                        rotate_left
                                        · simp only [Act.put, List.setIfInBounds_toArray, List.set_cons_zero, List.set_cons_succ, i64_w, i32_w]
                                          rfl
                                        refine pure_ (i := 4) (N := some 59) (v := ?_) (a' := ?_) #[true, true, false, false, true, false, false, false, false, false, false, false, false, false, false, false, false, false, false, false, false, false, false, false, false, false, false, false, false] rfl rfl (any_of HT_.out (by kernel_rfl)) (fun _ _ _ h => h) (Or.inl ⟨by rfl, ?_⟩) ?_ ?_
                                        rotate_left
                                        · intro w'
                                          go_simp
                                          with_reducible rfl
                                        rotate_left
                                        · simp only [Act.put, List.setIfInBounds_toArray, List.set_cons_zero, List.set_cons_succ, i64_w, i32_w]
                                          rfl
                                        refine pure_ (i := 5) (N := some 60) (v := ?_) (a' := ?_) #[true, true, false, false, true, true, false, false, false, false, false, false, false, false, false, false, false, false, false, false, false, false, false, false, false, false, false, false, false] rfl rfl (any_of HT_.out (by kernel_rfl)) (fun _ _ _ h => h) (Or.inl ⟨by rfl, ?_⟩) ?_ ?_
                                        rotate_left
                                        · intro w'
                                          go_simp
                                          with_reducible rfl
                                        rotate_left
                                        · simp only [Act.put, List.setIfInBounds_toArray, List.set_cons_zero, List.set_cons_succ, i64_w, i32_w]
                                          rfl
                                        refine pure_ (i := 9) (N := some 64) (v := ?_) (a' := ?_) #[true, true, false, false, true, true, false, false, false, true, false, false, false, false, false, false, false, false, false, false, false, false, false, false, false, false, false, false, false] rfl rfl (any_of HT_.out (by kernel_rfl)) (fun _ _ _ h => h) (Or.inl ⟨by rfl, ?_⟩) ?_ ?_
                                        rotate_left
                                        · intro w'
                                          go_simp
                                          with_reducible rfl
                                        rotate_left
                                        · simp only [Act.put, List.setIfInBounds_toArray, List.set_cons_zero, List.set_cons_succ, i64_w, i32_w]
                                          rfl
                                        refine pure_ (i := 10) (N := some 65) (v := ?_) (a' := ?_) #[true, true, false, false, true, true, false, false, false, true, true, false, false, false, false, false, false, false, false, false, false, false, false, false, false, false, false, false, false] rfl rfl (any_of HT_.out (by kernel_rfl)) (fun _ _ _ h => h) (Or.inl ⟨by rfl, ?_⟩) ?_ ?_
                                        rotate_left
                                        · intro w'
                                          go_simp
                                          with_reducible rfl
                                        rotate_left
                                        · simp only [Act.put, List.setIfInBounds_toArray, List.set_cons_zero, List.set_cons_succ, i64_w, i32_w]
                                          rfl
                                        refine pure_ (i := 13) (N := some 68) (v := ?_) (a' := ?_) #[true, true, false, false, true, true, false, false, false, true, true, false, false, true, false, false, false, false, false, false, false, false, false, false, false, false, false, false, false] rfl rfl (any_of HT_.out (by kernel_rfl)) (fun _ _ _ h => h) (Or.inl ⟨by rfl, ?_⟩) ?_ ?_
                                        rotate_left
                                        · intro w'
                                          go_simp
                                          with_reducible rfl
                                        rotate_left
                                        · simp only [Act.put, List.setIfInBounds_toArray, List.set_cons_zero, List.set_cons_succ, i64_w, i32_w]
                                          rfl
                                        refine pure_ (i := 14) (N := some 69) (v := ?_) (a' := ?_) #[true, true, false, false, true, true, false, false, false, true, true, false, false, true, true, false, false, false, false, false, false, false, false, false, false, false, false, false, false] rfl rfl (any_of HT_.out (by kernel_rfl)) (fun _ _ _ h => h) (Or.inl ⟨by rfl, ?_⟩) ?_ ?_
                                        rotate_left
                                        · intro w'
                                          go_simp
                                          with_reducible rfl
                                        rotate_left
                                        · simp only [Act.put, List.setIfInBounds_toArray, List.set_cons_zero, List.set_cons_succ, i64_w, i32_w]
                                          rfl
                                        refine pure_ (i := 19) (N := some 74) (v := ?_) (a' := ?_) #[true, true, false, false, true, true, false, false, false, true, true, false, false, true, true, false, false, false, false, true, false, false, false, false, false, false, false, false, false] rfl rfl (any_of HT_.out (by kernel_rfl)) (fun _ _ _ h => h) (Or.inl ⟨by rfl, ?_⟩) ?_ ?_
                                        rotate_left
                                        · intro w'
                                          go_simp
                                          with_reducible rfl
                                        rotate_left
                                        · simp only [Act.put, List.setIfInBounds_toArray, List.set_cons_zero, List.set_cons_succ, i64_w, i32_w]
                                          rfl
                                        refine pure_ (i := 20) (N := some 75) (v := ?_) (a' := ?_) #[true, true, false, false, true, true, false, false, false, true, true, false, false, true, true, false, false, false, false, true, true, false, false, false, false, false, false, false, false] rfl rfl (any_of HT_.out (by kernel_rfl)) (fun _ _ _ h => h) (Or.inl ⟨by rfl, ?_⟩) ?_ ?_
                                        rotate_left
                                        · intro w'
                                          go_simp
                                          with_reducible rfl
                                        rotate_left
                                        · simp only [Act.put, List.setIfInBounds_toArray, List.set_cons_zero, List.set_cons_succ, i64_w, i32_w]
                                          rfl
                                        refine one_ (i := 2) (N := some 57) #[true, true, true, false, true, true, false, false, false, true, true, false, false, true, true, false, false, false, false, true, true, false, false, false, false, false, false, false, false] rfl rfl (one_of HT_.out (by kernel_rfl)) (by decide) (fun K hK => ?_)
                                        refine goesV_ Tryd.func21 (by kernel_rfl) rfl #[.int .u8 a0] (by rfl) rfl rfl rfl (by (try simp only [List.map_toArray, List.map_cons, List.map_nil]); first | done | rfl | (simp only [List.length_drop, List.length_take]; rfl)) ?_
                                        with_reducible refine (bastionlaw07_AddrBytes_1.calls a0 t296 _ A18.out).mono ?_
                                        rintro e w' ⟨rfl, ⟨nd, rfl⟩⟩
                                        refine ⟨_, rfl, ?_⟩
                                        refine hK.out _ _ trivial (fun hHeld => ?_)
                                        clear hK K
                                        refine norm_ (a' := ?_) ?_ ?_
                                        rotate_left
                                        · show Act.put _ (some 57) _ = _
                                          simp only [Act.put, List.setIfInBounds_toArray, List.set_cons_zero, List.set_cons_succ, i64_w, i32_w]
                                          rfl
                                        refine pure_ (i := 3) (N := some 58) (v := ?_) (a' := ?_) #[true, true, true, true, true, true, false, false, false, true, true, false, false, true, true, false, false, false, false, true, true, false, false, false, false, false, false, false, false] rfl rfl (any_of HT_.out (by kernel_rfl)) (fun _ _ _ h => h) (Or.inl ⟨by rfl, ?_⟩) ?_ ?_
                                        rotate_left
                                        · intro w'
                                          go_simp
                                          with_reducible rfl
                                        rotate_left
                                        · simp only [Act.put, List.setIfInBounds_toArray, List.set_cons_zero, List.set_cons_succ, i64_w, i32_w]
                                          rfl
                                        refine one_ (i := 6) (N := some 61) #[true, true, true, true, true, true, true, false, false, true, true, false, false, true, true, false, false, false, false, true, true, false, false, false, false, false, false, false, false] rfl rfl (one_of HT_.out (by kernel_rfl)) (by decide) (fun K hK => ?_)
                                        refine goesV_ Tryd.func22 (by kernel_rfl) rfl #[.int .u8 a1] (by rfl) rfl rfl rfl (by (try simp only [List.map_toArray, List.map_cons, List.map_nil]); first | done | rfl | (simp only [List.length_drop, List.length_take]; rfl)) ?_
                                        with_reducible refine (bastionlaw07_AddrBytes_2.calls a1 t297 _ A20.out).mono ?_
                                        rintro e w' ⟨rfl, ⟨nd, rfl⟩⟩
                                        refine ⟨_, rfl, ?_⟩
                                        refine hK.out _ _ trivial (fun hHeld => ?_)
                                        clear hK K
                                        refine norm_ (a' := ?_) ?_ ?_
                                        rotate_left
                                        · show Act.put _ (some 61) _ = _
                                          simp only [Act.put, List.setIfInBounds_toArray, List.set_cons_zero, List.set_cons_succ, i64_w, i32_w]
                                          rfl
                                        refine pure_ (i := 7) (N := some 62) (v := ?_) (a' := ?_) #[true, true, true, true, true, true, true, true, false, true, true, false, false, true, true, false, false, false, false, true, true, false, false, false, false, false, false, false, false] rfl rfl (any_of HT_.out (by kernel_rfl)) (fun _ _ _ h => h) (Or.inl ⟨by rfl, ?_⟩) ?_ ?_
                                        rotate_left
                                        · intro w'
                                          go_simp
                                          with_reducible rfl
                                        rotate_left
                                        · simp only [Act.put, List.setIfInBounds_toArray, List.set_cons_zero, List.set_cons_succ, i64_w, i32_w]
                                          rfl
                                        refine pure_ (i := 8) (N := some 63) (v := ?_) (a' := ?_) #[true, true, true, true, true, true, true, true, true, true, true, false, false, true, true, false, false, false, false, true, true, false, false, false, false, false, false, false, false] rfl rfl (any_of HT_.out (by kernel_rfl)) (fun _ _ _ h => h) (Or.inl ⟨by rfl, ?_⟩) ?_ ?_
                                        rotate_left
                                        · intro w'
                                          go_simp
                                          with_reducible rfl
                                        rotate_left
                                        · simp only [Act.put, List.setIfInBounds_toArray, List.set_cons_zero, List.set_cons_succ, i64_w, i32_w]
                                          rfl
                                        refine one_ (i := 11) (N := some 66) #[true, true, true, true, true, true, true, true, true, true, true, true, false, true, true, false, false, false, false, true, true, false, false, false, false, false, false, false, false] rfl rfl (one_of HT_.out (by kernel_rfl)) (by decide) (fun K hK => ?_)
                                        refine goesV_ Tryd.func21 (by kernel_rfl) rfl #[.int .u8 a2] (by rfl) rfl rfl rfl (by (try simp only [List.map_toArray, List.map_cons, List.map_nil]); first | done | rfl | (simp only [List.length_drop, List.length_take]; rfl)) ?_
                                        with_reducible refine (bastionlaw07_AddrBytes_1.calls a2 t298 _ A23.out).mono ?_
                                        rintro e w' ⟨rfl, ⟨nd, rfl⟩⟩
                                        refine ⟨_, rfl, ?_⟩
                                        refine hK.out _ _ trivial (fun hHeld => ?_)
                                        clear hK K
                                        refine norm_ (a' := ?_) ?_ ?_
                                        rotate_left
                                        · show Act.put _ (some 66) _ = _
                                          simp only [Act.put, List.setIfInBounds_toArray, List.set_cons_zero, List.set_cons_succ, i64_w, i32_w]
                                          rfl
                                        refine pure_ (i := 12) (N := some 67) (v := ?_) (a' := ?_) #[true, true, true, true, true, true, true, true, true, true, true, true, true, true, true, false, false, false, false, true, true, false, false, false, false, false, false, false, false] rfl rfl (any_of HT_.out (by kernel_rfl)) (fun _ _ _ h => h) (Or.inl ⟨by rfl, ?_⟩) ?_ ?_
                                        rotate_left
                                        · intro w'
                                          go_simp
                                          with_reducible rfl
                                        rotate_left
                                        · simp only [Act.put, List.setIfInBounds_toArray, List.set_cons_zero, List.set_cons_succ, i64_w, i32_w]
                                          rfl
                                        refine one_ (i := 15) (N := some 70) #[true, true, true, true, true, true, true, true, true, true, true, true, true, true, true, true, false, false, false, true, true, false, false, false, false, false, false, false, false] rfl rfl (one_of HT_.out (by kernel_rfl)) (by decide) (fun K hK => ?_)
                                        refine goesV_ Tryd.func22 (by kernel_rfl) rfl #[.int .u8 a3] (by rfl) rfl rfl rfl (by (try simp only [List.map_toArray, List.map_cons, List.map_nil]); first | done | rfl | (simp only [List.length_drop, List.length_take]; rfl)) ?_
                                        with_reducible refine (bastionlaw07_AddrBytes_2.calls a3 t299 _ A25.out).mono ?_
                                        rintro e w' ⟨rfl, ⟨nd, rfl⟩⟩
                                        refine ⟨_, rfl, ?_⟩
                                        refine hK.out _ _ trivial (fun hHeld => ?_)
                                        clear hK K
                                        refine norm_ (a' := ?_) ?_ ?_
                                        rotate_left
                                        · show Act.put _ (some 70) _ = _
                                          simp only [Act.put, List.setIfInBounds_toArray, List.set_cons_zero, List.set_cons_succ, i64_w, i32_w]
                                          rfl
                                        refine pure_ (i := 16) (N := some 71) (v := ?_) (a' := ?_) #[true, true, true, true, true, true, true, true, true, true, true, true, true, true, true, true, true, false, false, true, true, false, false, false, false, false, false, false, false] rfl rfl (any_of HT_.out (by kernel_rfl)) (fun _ _ _ h => h) (Or.inl ⟨by rfl, ?_⟩) ?_ ?_
                                        rotate_left
                                        · intro w'
                                          go_simp
                                          with_reducible rfl
                                        rotate_left
                                        · simp only [Act.put, List.setIfInBounds_toArray, List.set_cons_zero, List.set_cons_succ, i64_w, i32_w]
                                          rfl
                                        refine pure_ (i := 17) (N := some 72) (v := ?_) (a' := ?_) #[true, true, true, true, true, true, true, true, true, true, true, true, true, true, true, true, true, true, false, true, true, false, false, false, false, false, false, false, false] rfl rfl (any_of HT_.out (by kernel_rfl)) (fun _ _ _ h => h) (Or.inl ⟨by rfl, ?_⟩) ?_ ?_
                                        rotate_left
                                        · intro w'
                                          go_simp
                                          with_reducible rfl
                                        rotate_left
                                        · simp only [Act.put, List.setIfInBounds_toArray, List.set_cons_zero, List.set_cons_succ, i64_w, i32_w]
                                          rfl
                                        refine pure_ (i := 18) (N := some 73) (v := ?_) (a' := ?_) #[true, true, true, true, true, true, true, true, true, true, true, true, true, true, true, true, true, true, true, true, true, false, false, false, false, false, false, false, false] rfl rfl (any_of HT_.out (by kernel_rfl)) (fun _ _ _ h => h) (Or.inl ⟨by rfl, ?_⟩) ?_ ?_
                                        rotate_left
                                        · intro w'
                                          go_simp
                                          with_reducible rfl
                                        rotate_left
                                        · simp only [Act.put, List.setIfInBounds_toArray, List.set_cons_zero, List.set_cons_succ, i64_w, i32_w]
                                          rfl
                                        refine one_ (i := 21) (N := some 76) #[true, true, true, true, true, true, true, true, true, true, true, true, true, true, true, true, true, true, true, true, true, true, false, false, false, false, false, false, false] rfl rfl (one_of HT_.out (by kernel_rfl)) (by decide) (fun K hK => ?_)
                                        refine goesV_ Tryd.func21 (by kernel_rfl) rfl #[.int .u8 a3] (by rfl) rfl rfl rfl (by (try simp only [List.map_toArray, List.map_cons, List.map_nil]); first | done | rfl | (simp only [List.length_drop, List.length_take]; rfl)) ?_
                                        with_reducible refine (bastionlaw07_AddrBytes_1.calls a3 t306 _ A30.out).mono ?_
                                        rintro e w' ⟨rfl, ⟨nd, rfl⟩⟩
                                        refine ⟨_, rfl, ?_⟩
                                        refine hK.out _ _ trivial (fun hHeld => ?_)
                                        clear hK K
                                        refine norm_ (a' := ?_) ?_ ?_
                                        rotate_left
                                        · show Act.put _ (some 76) _ = _
                                          simp only [Act.put, List.setIfInBounds_toArray, List.set_cons_zero, List.set_cons_succ, i64_w, i32_w]
                                          rfl
                                        refine pure_ (i := 22) (N := some 77) (v := ?_) (a' := ?_) #[true, true, true, true, true, true, true, true, true, true, true, true, true, true, true, true, true, true, true, true, true, true, true, false, false, false, false, false, false] rfl rfl (any_of HT_.out (by kernel_rfl)) (fun _ _ _ h => h) (Or.inl ⟨by rfl, ?_⟩) ?_ ?_
                                        rotate_left
                                        · intro w'
                                          go_simp
                                          with_reducible rfl
                                        rotate_left
                                        · simp only [Act.put, List.setIfInBounds_toArray, List.set_cons_zero, List.set_cons_succ, i64_w, i32_w]
                                          rfl
                                        refine one_ (i := 23) (N := some 78) #[true, true, true, true, true, true, true, true, true, true, true, true, true, true, true, true, true, true, true, true, true, true, true, true, false, false, false, false, false] rfl rfl (one_of HT_.out (by kernel_rfl)) (by decide) (fun K hK => ?_)
                                        refine goes_ Tryd.func10 (by kernel_rfl) rfl #[.string (((((((t296 ++ (⟨#[46]⟩ : ByteArray)) ++ t297) ++ (⟨#[46]⟩ : ByteArray)) ++ t298)) ++ (⟨#[46]⟩ : ByteArray)) ++ t306)] (by rfl) rfl rfl (by (try simp only [List.map_toArray, List.map_cons, List.map_nil]); first | done | rfl | (simp only [List.length_drop, List.length_take]; rfl)) ?_
                                        with_reducible refine (addr_V4.calls (((((((t296 ++ (⟨#[46]⟩ : ByteArray)) ++ t297) ++ (⟨#[46]⟩ : ByteArray)) ++ t298)) ++ (⟨#[46]⟩ : ByteArray)) ++ t306) t307 t308 _ ?side1 A32.out).mono ?_
                                        (case side1 => exact UTabs.below HTB.out (by repeat (first | (with_reducible first | exact HB.out | apply below_alloc | apply pw_below_drewN | apply below_drew1) | exact HB.out)))
                                        rintro e w39 ⟨rfl, hb⟩
                                        refine ⟨_, rfl, ?_⟩
                                        have n0_ := Aside0.mk (below_step (by repeat (first | (with_reducible first | exact HB.out | apply below_alloc | apply pw_below_drewN | apply below_drew1) | exact HB.out)) hb)
                                        clear HB
                                        have HB := n0_
                                        clear n0_
                                        (try clear hb)
                                        (try clear hb2)
                                        (try clear hk)
                                        (try clear hi)
                                        refine hK.out _ _ trivial (fun hHeld => ?_)
                                        clear hK K
                                        refine norm_ (a' := ?_) ?_ ?_
                                        rotate_left
                                        · show Act.put _ (some 78) _ = _
                                          simp only [Act.put, List.setIfInBounds_toArray, List.set_cons_zero, List.set_cons_succ, i64_w, i32_w]
                                          rfl
                                        refine pure_ (i := 24) (N := some 54) (v := ?_) (a' := ?_) #[true, true, true, true, true, true, true, true, true, true, true, true, true, true, true, true, true, true, true, true, true, true, true, true, true, false, false, false, false] rfl rfl (any_of HT_.out (by kernel_rfl)) (fun _ _ _ h => h) (Or.inl ⟨by rfl, ?_⟩) ?_ ?_
                                        rotate_left
                                        · intro w'
                                          go_simp
                                          with_reducible rfl
                                        rotate_left
                                        · simp only [Act.put, List.setIfInBounds_toArray, List.set_cons_zero, List.set_cons_succ, i64_w, i32_w]
                                          rfl
                                        refine pure_ (i := 25) (N := some 79) (v := ?_) (a' := ?_) #[true, true, true, true, true, true, true, true, true, true, true, true, true, true, true, true, true, true, true, true, true, true, true, true, true, true, false, false, false] rfl rfl (any_of HT_.out (by kernel_rfl)) (fun _ _ _ h => h) (Or.inl ⟨by rfl, ?_⟩) ?_ ?_
                                        rotate_left
                                        · intro w'
                                          go_simp
                                          with_reducible rfl
                                        rotate_left
                                        · simp only [Act.put, List.setIfInBounds_toArray, List.set_cons_zero, List.set_cons_succ, i64_w, i32_w]
                                          rfl
                                        refine pure_ (i := 26) (N := some 80) (v := ?_) (a' := ?_) #[true, true, true, true, true, true, true, true, true, true, true, true, true, true, true, true, true, true, true, true, true, true, true, true, true, true, true, false, false] rfl rfl (any_of HT_.out (by kernel_rfl)) (fun _ _ _ h => h) (Or.inl ⟨by rfl, ?_⟩) ?_ ?_
                                        rotate_left
                                        · intro w'
                                          go_simp
                                          with_reducible rfl
                                        rotate_left
                                        · simp only [Act.put, List.setIfInBounds_toArray, List.set_cons_zero, List.set_cons_succ, i64_w, i32_w]
                                          rfl
                                        refine pure_ (i := 27) (N := some 14) (v := ?_) (a' := ?_) #[true, true, true, true, true, true, true, true, true, true, true, true, true, true, true, true, true, true, true, true, true, true, true, true, true, true, true, true, false] rfl rfl (any_of HT_.out (by kernel_rfl)) (fun _ _ _ h => h) (Or.inl ⟨by rfl, ?_⟩) ?_ ?_
                                        rotate_left
                                        · intro w'
                                          go_simp
                                          with_reducible rfl
                                        rotate_left
                                        · simp only [Act.put, List.setIfInBounds_toArray, List.set_cons_zero, List.set_cons_succ, i64_w, i32_w]
                                          rfl
                                        refine pure_ (i := 28) (N := some 15) (v := ?_) (a' := ?_) #[true, true, true, true, true, true, true, true, true, true, true, true, true, true, true, true, true, true, true, true, true, true, true, true, true, true, true, true, true] rfl rfl (any_of HT_.out (by kernel_rfl)) (fun _ _ _ h => h) (Or.inl ⟨by rfl, ?_⟩) ?_ ?_
                                        rotate_left
                                        · intro w'
                                          go_simp
                                          with_reducible rfl
                                        rotate_left
                                        · simp only [Act.put, List.setIfInBounds_toArray, List.set_cons_zero, List.set_cons_succ, i64_w, i32_w]
                                          rfl
                                        refine done_ (done_of HT_.out (by kernel_rfl)) ?_
                                        try go_wp2
                                        go_ret
                                        exact ⟨by first | rfl | (simp [errW_none, errW_some] <;> rfl) | (simp [*, errW_none, errW_some] <;> rfl), by repeat (first | (with_reducible first | exact HB.out | apply below_alloc | apply pw_below_drewN | apply below_drew1) | exact HB.out)⟩
                                      · rw [if_neg c35] at H
                                        have c35b0 : (t307 == (Go.bits .or .u32 (Go.bits .or .u32 (Go.bits .or .u32 ((((a0) % 4294967296) * 16777216) % 4294967296) ((((a1) % 4294967296) * 65536) % 4294967296)) ((((a2) % 4294967296) * 256) % 4294967296)) ((a3) % 4294967296))) = false := beq_eq_false_iff_ne.mpr c35
                                        have c35b1 : (t307 != (Go.bits .or .u32 (Go.bits .or .u32 (Go.bits .or .u32 ((((a0) % 4294967296) * 16777216) % 4294967296) ((((a1) % 4294967296) * 65536) % 4294967296)) ((((a2) % 4294967296) * 256) % 4294967296)) ((a3) % 4294967296))) = true := bne_iff_ne.mpr c35
                                        obtain rfl := Option.some.inj H
                                        go_enter Tryd.func8, Tryd.ntmps8
                                        try go_wp2_with (first | ((with_reducible refine gate_callee (f := 14) rfl ?_); refine goesL_ (some 16) rfl rfl Tryd.func14 (by kernel_rfl) rfl #[] rfl (by (try simp only [List.map_toArray, List.map_cons, List.map_nil]); first | done | rfl | (simp only [List.length_drop, List.length_take]; rfl)) ?_; (with_reducible refine (bastionlaw07_lives.calls k  true _ ?side1 A5.out).mono ?_); (case side1 => exact UTabs.below HTB.out (by repeat (first | (with_reducible first | exact HB.out | apply below_alloc | apply pw_below_drewN | apply below_drew1) | exact HB.out))); rintro e w40 ⟨rfl, hb⟩; refine ⟨_, rfl, ?_⟩; have n0_ := Aside0.mk (below_step (by repeat (first | (with_reducible first | exact HB.out | apply below_alloc | apply pw_below_drewN | apply below_drew1) | exact HB.out)) hb); clear HB; have HB := n0_; clear n0_; (try clear hb); (try clear hb2); (try clear hk); (try clear hi)) | ((with_reducible refine gate_calleeV (t := 33) rfl ?_); refine goesLV_ (some 35) rfl rfl Tryd.func21 (by kernel_rfl) rfl #[.int .u8 a0] rfl rfl (by (try simp only [List.map_toArray, List.map_cons, List.map_nil]); first | done | rfl | (simp only [List.length_drop, List.length_take]; rfl)) ?_; (with_reducible refine (bastionlaw07_AddrBytes_1.calls a0 t296 _ A7.out).mono ?_); rintro e w' ⟨rfl, ⟨nd, rfl⟩⟩; refine ⟨_, rfl, ?_⟩) | ((with_reducible refine gate_calleeV (t := 37) rfl ?_); refine goesLV_ (some 39) rfl rfl Tryd.func22 (by kernel_rfl) rfl #[.int .u8 a1] rfl rfl (by (try simp only [List.map_toArray, List.map_cons, List.map_nil]); first | done | rfl | (simp only [List.length_drop, List.length_take]; rfl)) ?_; (with_reducible refine (bastionlaw07_AddrBytes_2.calls a1 t297 _ A9.out).mono ?_); rintro e w' ⟨rfl, ⟨nd, rfl⟩⟩; refine ⟨_, rfl, ?_⟩) | ((with_reducible refine gate_calleeV (t := 42) rfl ?_); refine goesLV_ (some 44) rfl rfl Tryd.func21 (by kernel_rfl) rfl #[.int .u8 a2] rfl rfl (by (try simp only [List.map_toArray, List.map_cons, List.map_nil]); first | done | rfl | (simp only [List.length_drop, List.length_take]; rfl)) ?_; (with_reducible refine (bastionlaw07_AddrBytes_1.calls a2 t298 _ A12.out).mono ?_); rintro e w' ⟨rfl, ⟨nd, rfl⟩⟩; refine ⟨_, rfl, ?_⟩) | ((with_reducible refine gate_calleeV (t := 47) rfl ?_); refine goesLV_ (some 49) rfl rfl Tryd.func22 (by kernel_rfl) rfl #[.int .u8 a3] rfl rfl (by (try simp only [List.map_toArray, List.map_cons, List.map_nil]); first | done | rfl | (simp only [List.length_drop, List.length_take]; rfl)) ?_; (with_reducible refine (bastionlaw07_AddrBytes_2.calls a3 t299 _ A15.out).mono ?_); rintro e w' ⟨rfl, ⟨nd, rfl⟩⟩; refine ⟨_, rfl, ?_⟩) | ((with_reducible refine gate_callee (f := 10) rfl ?_); refine goesL_ (some 51) rfl rfl Tryd.func10 (by kernel_rfl) rfl #[.string ((((((t296 ++ (⟨#[46]⟩ : ByteArray)) ++ t297) ++ (⟨#[46]⟩ : ByteArray)) ++ t298) ++ (⟨#[46]⟩ : ByteArray)) ++ t299)] rfl (by (try simp only [List.map_toArray, List.map_cons, List.map_nil]); first | done | rfl | (simp only [List.length_drop, List.length_take]; rfl)) ?_; (with_reducible refine (addr_V4.calls ((((((t296 ++ (⟨#[46]⟩ : ByteArray)) ++ t297) ++ (⟨#[46]⟩ : ByteArray)) ++ t298) ++ (⟨#[46]⟩ : ByteArray)) ++ t299) t300 t301 _ ?side1 A17.out).mono ?_); (case side1 => exact UTabs.below HTB.out (by repeat (first | (with_reducible first | exact HB.out | apply below_alloc | apply pw_below_drewN | apply below_drew1) | exact HB.out))); rintro e w41 ⟨rfl, hb⟩; refine ⟨_, rfl, ?_⟩; have n0_ := Aside0.mk (below_step (by repeat (first | (with_reducible first | exact HB.out | apply below_alloc | apply pw_below_drewN | apply below_drew1) | exact HB.out)) hb); clear HB; have HB := n0_; clear n0_; (try clear hb); (try clear hb2); (try clear hk); (try clear hi)))
                                        have n0_ := Aside0.mk (below_drew1 HB.out)
                                        clear HB
                                        have HB := n0_
                                        clear n0_
                                        refine start_ (n := 29) (S := fun w' => True) (ds := []) #[false, false, false, false, false, false, false, false, false, false, false, false, false, false, false, false, false, false, false, false, false, false, false, false, false, false, false, false, false] (by kernel_rfl) rfl rfl trivial (fun hHeld => ?_); refine with_tabW bastionlaw07_AddrBytes.tab7 bastionlaw07_AddrBytes.bits7 (fun HT_ HW_ => ?_)
                                        generalize w41.drew = w42 at HB hHeld ⊢
                                        refine pure_ (i := 0) (N := some 55) (v := ?_) (a' := ?_) #[true, false, false, false, false, false, false, false, false, false, false, false, false, false, false, false, false, false, false, false, false, false, false, false, false, false, false, false, false] rfl rfl (any_of HT_.out (by kernel_rfl)) (fun _ _ _ h => h) (Or.inl ⟨by rfl, ?_⟩) ?_ ?_
                                        rotate_left
                                        · intro w'
                                          go_simp
                                          with_reducible rfl
                                        rotate_left
                                        · simp only [Act.put, List.setIfInBounds_toArray, List.set_cons_zero, List.set_cons_succ, i64_w, i32_w]
                                          rfl
                                        refine pure_ (i := 1) (N := some 56) (v := ?_) (a' := ?_) #[true, true, false, false, false, false, false, false, false, false, false, false, false, false, false, false, false, false, false, false, false, false, false, false, false, false, false, false, false] rfl rfl (any_of HT_.out (by kernel_rfl)) (fun _ _ _ h => h) (Or.inl ⟨by rfl, ?_⟩) ?_ ?_
                                        rotate_left
                                        · intro w'
                                          go_simp
                                          with_reducible rfl
                                        rotate_left
                                        · simp only [Act.put, List.setIfInBounds_toArray, List.set_cons_zero, List.set_cons_succ, i64_w, i32_w]
                                          rfl
                                        refine pure_ (i := 4) (N := some 59) (v := ?_) (a' := ?_) #[true, true, false, false, true, false, false, false, false, false, false, false, false, false, false, false, false, false, false, false, false, false, false, false, false, false, false, false, false] rfl rfl (any_of HT_.out (by kernel_rfl)) (fun _ _ _ h => h) (Or.inl ⟨by rfl, ?_⟩) ?_ ?_
                                        rotate_left
                                        · intro w'
                                          go_simp
                                          with_reducible rfl
                                        rotate_left
                                        · simp only [Act.put, List.setIfInBounds_toArray, List.set_cons_zero, List.set_cons_succ, i64_w, i32_w]
                                          rfl
                                        refine pure_ (i := 5) (N := some 60) (v := ?_) (a' := ?_) #[true, true, false, false, true, true, false, false, false, false, false, false, false, false, false, false, false, false, false, false, false, false, false, false, false, false, false, false, false] rfl rfl (any_of HT_.out (by kernel_rfl)) (fun _ _ _ h => h) (Or.inl ⟨by rfl, ?_⟩) ?_ ?_
                                        rotate_left
                                        · intro w'
                                          go_simp
                                          with_reducible rfl
                                        rotate_left
                                        · simp only [Act.put, List.setIfInBounds_toArray, List.set_cons_zero, List.set_cons_succ, i64_w, i32_w]
                                          rfl
                                        refine pure_ (i := 9) (N := some 64) (v := ?_) (a' := ?_) #[true, true, false, false, true, true, false, false, false, true, false, false, false, false, false, false, false, false, false, false, false, false, false, false, false, false, false, false, false] rfl rfl (any_of HT_.out (by kernel_rfl)) (fun _ _ _ h => h) (Or.inl ⟨by rfl, ?_⟩) ?_ ?_
                                        rotate_left
                                        · intro w'
                                          go_simp
                                          with_reducible rfl
                                        rotate_left
                                        · simp only [Act.put, List.setIfInBounds_toArray, List.set_cons_zero, List.set_cons_succ, i64_w, i32_w]
                                          rfl
                                        refine pure_ (i := 10) (N := some 65) (v := ?_) (a' := ?_) #[true, true, false, false, true, true, false, false, false, true, true, false, false, false, false, false, false, false, false, false, false, false, false, false, false, false, false, false, false] rfl rfl (any_of HT_.out (by kernel_rfl)) (fun _ _ _ h => h) (Or.inl ⟨by rfl, ?_⟩) ?_ ?_
                                        rotate_left
                                        · intro w'
                                          go_simp
                                          with_reducible rfl
                                        rotate_left
                                        · simp only [Act.put, List.setIfInBounds_toArray, List.set_cons_zero, List.set_cons_succ, i64_w, i32_w]
                                          rfl
                                        refine pure_ (i := 13) (N := some 68) (v := ?_) (a' := ?_) #[true, true, false, false, true, true, false, false, false, true, true, false, false, true, false, false, false, false, false, false, false, false, false, false, false, false, false, false, false] rfl rfl (any_of HT_.out (by kernel_rfl)) (fun _ _ _ h => h) (Or.inl ⟨by rfl, ?_⟩) ?_ ?_
                                        rotate_left
                                        · intro w'
                                          go_simp
                                          with_reducible rfl
                                        rotate_left
                                        · simp only [Act.put, List.setIfInBounds_toArray, List.set_cons_zero, List.set_cons_succ, i64_w, i32_w]
                                          rfl
                                        refine pure_ (i := 14) (N := some 69) (v := ?_) (a' := ?_) #[true, true, false, false, true, true, false, false, false, true, true, false, false, true, true, false, false, false, false, false, false, false, false, false, false, false, false, false, false] rfl rfl (any_of HT_.out (by kernel_rfl)) (fun _ _ _ h => h) (Or.inl ⟨by rfl, ?_⟩) ?_ ?_
                                        rotate_left
                                        · intro w'
                                          go_simp
                                          with_reducible rfl
                                        rotate_left
                                        · simp only [Act.put, List.setIfInBounds_toArray, List.set_cons_zero, List.set_cons_succ, i64_w, i32_w]
                                          rfl
                                        refine pure_ (i := 19) (N := some 74) (v := ?_) (a' := ?_) #[true, true, false, false, true, true, false, false, false, true, true, false, false, true, true, false, false, false, false, true, false, false, false, false, false, false, false, false, false] rfl rfl (any_of HT_.out (by kernel_rfl)) (fun _ _ _ h => h) (Or.inl ⟨by rfl, ?_⟩) ?_ ?_
                                        rotate_left
                                        · intro w'
                                          go_simp
                                          with_reducible rfl
                                        rotate_left
                                        · simp only [Act.put, List.setIfInBounds_toArray, List.set_cons_zero, List.set_cons_succ, i64_w, i32_w]
                                          rfl
                                        refine pure_ (i := 20) (N := some 75) (v := ?_) (a' := ?_) #[true, true, false, false, true, true, false, false, false, true, true, false, false, true, true, false, false, false, false, true, true, false, false, false, false, false, false, false, false] rfl rfl (any_of HT_.out (by kernel_rfl)) (fun _ _ _ h => h) (Or.inl ⟨by rfl, ?_⟩) ?_ ?_
                                        rotate_left
                                        · intro w'
                                          go_simp
                                          with_reducible rfl
                                        rotate_left
                                        · simp only [Act.put, List.setIfInBounds_toArray, List.set_cons_zero, List.set_cons_succ, i64_w, i32_w]
                                          rfl
                                        refine one_ (i := 2) (N := some 57) #[true, true, true, false, true, true, false, false, false, true, true, false, false, true, true, false, false, false, false, true, true, false, false, false, false, false, false, false, false] rfl rfl (one_of HT_.out (by kernel_rfl)) (by decide) (fun K hK => ?_)
                                        refine goesV_ Tryd.func21 (by kernel_rfl) rfl #[.int .u8 a0] (by rfl) rfl rfl rfl (by (try simp only [List.map_toArray, List.map_cons, List.map_nil]); first | done | rfl | (simp only [List.length_drop, List.length_take]; rfl)) ?_
                                        with_reducible refine (bastionlaw07_AddrBytes_1.calls a0 t296 _ A18.out).mono ?_
                                        rintro e w' ⟨rfl, ⟨nd, rfl⟩⟩
                                        refine ⟨_, rfl, ?_⟩
                                        refine hK.out _ _ trivial (fun hHeld => ?_)
                                        clear hK K
                                        refine norm_ (a' := ?_) ?_ ?_
                                        rotate_left
                                        · show Act.put _ (some 57) _ = _
                                          simp only [Act.put, List.setIfInBounds_toArray, List.set_cons_zero, List.set_cons_succ, i64_w, i32_w]
                                          rfl
                                        refine pure_ (i := 3) (N := some 58) (v := ?_) (a' := ?_) #[true, true, true, true, true, true, false, false, false, true, true, false, false, true, true, false, false, false, false, true, true, false, false, false, false, false, false, false, false] rfl rfl (any_of HT_.out (by kernel_rfl)) (fun _ _ _ h => h) (Or.inl ⟨by rfl, ?_⟩) ?_ ?_
                                        rotate_left
                                        · intro w'
                                          go_simp
                                          with_reducible rfl
                                        rotate_left
                                        · simp only [Act.put, List.setIfInBounds_toArray, List.set_cons_zero, List.set_cons_succ, i64_w, i32_w]
                                          rfl
                                        refine one_ (i := 6) (N := some 61) #[true, true, true, true, true, true, true, false, false, true, true, false, false, true, true, false, false, false, false, true, true, false, false, false, false, false, false, false, false] rfl rfl (one_of HT_.out (by kernel_rfl)) (by decide) (fun K hK => ?_)
                                        refine goesV_ Tryd.func22 (by kernel_rfl) rfl #[.int .u8 a1] (by rfl) rfl rfl rfl (by (try simp only [List.map_toArray, List.map_cons, List.map_nil]); first | done | rfl | (simp only [List.length_drop, List.length_take]; rfl)) ?_
                                        with_reducible refine (bastionlaw07_AddrBytes_2.calls a1 t297 _ A20.out).mono ?_
                                        rintro e w' ⟨rfl, ⟨nd, rfl⟩⟩
                                        refine ⟨_, rfl, ?_⟩
                                        refine hK.out _ _ trivial (fun hHeld => ?_)
                                        clear hK K
                                        refine norm_ (a' := ?_) ?_ ?_
                                        rotate_left
                                        · show Act.put _ (some 61) _ = _
                                          simp only [Act.put, List.setIfInBounds_toArray, List.set_cons_zero, List.set_cons_succ, i64_w, i32_w]
                                          rfl
                                        refine pure_ (i := 7) (N := some 62) (v := ?_) (a' := ?_) #[true, true, true, true, true, true, true, true, false, true, true, false, false, true, true, false, false, false, false, true, true, false, false, false, false, false, false, false, false] rfl rfl (any_of HT_.out (by kernel_rfl)) (fun _ _ _ h => h) (Or.inl ⟨by rfl, ?_⟩) ?_ ?_
                                        rotate_left
                                        · intro w'
                                          go_simp
                                          with_reducible rfl
                                        rotate_left
                                        · simp only [Act.put, List.setIfInBounds_toArray, List.set_cons_zero, List.set_cons_succ, i64_w, i32_w]
                                          rfl
                                        refine pure_ (i := 8) (N := some 63) (v := ?_) (a' := ?_) #[true, true, true, true, true, true, true, true, true, true, true, false, false, true, true, false, false, false, false, true, true, false, false, false, false, false, false, false, false] rfl rfl (any_of HT_.out (by kernel_rfl)) (fun _ _ _ h => h) (Or.inl ⟨by rfl, ?_⟩) ?_ ?_
                                        rotate_left
                                        · intro w'
                                          go_simp
                                          with_reducible rfl
                                        rotate_left
                                        · simp only [Act.put, List.setIfInBounds_toArray, List.set_cons_zero, List.set_cons_succ, i64_w, i32_w]
                                          rfl
                                        refine one_ (i := 11) (N := some 66) #[true, true, true, true, true, true, true, true, true, true, true, true, false, true, true, false, false, false, false, true, true, false, false, false, false, false, false, false, false] rfl rfl (one_of HT_.out (by kernel_rfl)) (by decide) (fun K hK => ?_)
                                        refine goesV_ Tryd.func21 (by kernel_rfl) rfl #[.int .u8 a2] (by rfl) rfl rfl rfl (by (try simp only [List.map_toArray, List.map_cons, List.map_nil]); first | done | rfl | (simp only [List.length_drop, List.length_take]; rfl)) ?_
                                        with_reducible refine (bastionlaw07_AddrBytes_1.calls a2 t298 _ A23.out).mono ?_
                                        rintro e w' ⟨rfl, ⟨nd, rfl⟩⟩
                                        refine ⟨_, rfl, ?_⟩
                                        refine hK.out _ _ trivial (fun hHeld => ?_)
                                        clear hK K
                                        refine norm_ (a' := ?_) ?_ ?_
                                        rotate_left
                                        · show Act.put _ (some 66) _ = _
                                          simp only [Act.put, List.setIfInBounds_toArray, List.set_cons_zero, List.set_cons_succ, i64_w, i32_w]
                                          rfl
                                        refine pure_ (i := 12) (N := some 67) (v := ?_) (a' := ?_) #[true, true, true, true, true, true, true, true, true, true, true, true, true, true, true, false, false, false, false, true, true, false, false, false, false, false, false, false, false] rfl rfl (any_of HT_.out (by kernel_rfl)) (fun _ _ _ h => h) (Or.inl ⟨by rfl, ?_⟩) ?_ ?_
                                        rotate_left
                                        · intro w'
                                          go_simp
                                          with_reducible rfl
                                        rotate_left
                                        · simp only [Act.put, List.setIfInBounds_toArray, List.set_cons_zero, List.set_cons_succ, i64_w, i32_w]
                                          rfl
                                        refine one_ (i := 15) (N := some 70) #[true, true, true, true, true, true, true, true, true, true, true, true, true, true, true, true, false, false, false, true, true, false, false, false, false, false, false, false, false] rfl rfl (one_of HT_.out (by kernel_rfl)) (by decide) (fun K hK => ?_)
                                        refine goesV_ Tryd.func22 (by kernel_rfl) rfl #[.int .u8 a3] (by rfl) rfl rfl rfl (by (try simp only [List.map_toArray, List.map_cons, List.map_nil]); first | done | rfl | (simp only [List.length_drop, List.length_take]; rfl)) ?_
                                        with_reducible refine (bastionlaw07_AddrBytes_2.calls a3 t299 _ A25.out).mono ?_
                                        rintro e w' ⟨rfl, ⟨nd, rfl⟩⟩
                                        refine ⟨_, rfl, ?_⟩
                                        refine hK.out _ _ trivial (fun hHeld => ?_)
                                        clear hK K
                                        refine norm_ (a' := ?_) ?_ ?_
                                        rotate_left
                                        · show Act.put _ (some 70) _ = _
                                          simp only [Act.put, List.setIfInBounds_toArray, List.set_cons_zero, List.set_cons_succ, i64_w, i32_w]
                                          rfl
                                        refine pure_ (i := 16) (N := some 71) (v := ?_) (a' := ?_) #[true, true, true, true, true, true, true, true, true, true, true, true, true, true, true, true, true, false, false, true, true, false, false, false, false, false, false, false, false] rfl rfl (any_of HT_.out (by kernel_rfl)) (fun _ _ _ h => h) (Or.inl ⟨by rfl, ?_⟩) ?_ ?_
                                        rotate_left
                                        · intro w'
                                          go_simp
                                          with_reducible rfl
                                        rotate_left
                                        · simp only [Act.put, List.setIfInBounds_toArray, List.set_cons_zero, List.set_cons_succ, i64_w, i32_w]
                                          rfl
                                        refine pure_ (i := 17) (N := some 72) (v := ?_) (a' := ?_) #[true, true, true, true, true, true, true, true, true, true, true, true, true, true, true, true, true, true, false, true, true, false, false, false, false, false, false, false, false] rfl rfl (any_of HT_.out (by kernel_rfl)) (fun _ _ _ h => h) (Or.inl ⟨by rfl, ?_⟩) ?_ ?_
                                        rotate_left
                                        · intro w'
                                          go_simp
                                          with_reducible rfl
                                        rotate_left
                                        · simp only [Act.put, List.setIfInBounds_toArray, List.set_cons_zero, List.set_cons_succ, i64_w, i32_w]
                                          rfl
                                        refine pure_ (i := 18) (N := some 73) (v := ?_) (a' := ?_) #[true, true, true, true, true, true, true, true, true, true, true, true, true, true, true, true, true, true, true, true, true, false, false, false, false, false, false, false, false] rfl rfl (any_of HT_.out (by kernel_rfl)) (fun _ _ _ h => h) (Or.inl ⟨by rfl, ?_⟩) ?_ ?_
                                        rotate_left
                                        · intro w'
                                          go_simp
                                          with_reducible rfl
                                        rotate_left
                                        · simp only [Act.put, List.setIfInBounds_toArray, List.set_cons_zero, List.set_cons_succ, i64_w, i32_w]
                                          rfl
                                        refine one_ (i := 21) (N := some 76) #[true, true, true, true, true, true, true, true, true, true, true, true, true, true, true, true, true, true, true, true, true, true, false, false, false, false, false, false, false] rfl rfl (one_of HT_.out (by kernel_rfl)) (by decide) (fun K hK => ?_)
                                        refine goesV_ Tryd.func21 (by kernel_rfl) rfl #[.int .u8 a3] (by rfl) rfl rfl rfl (by (try simp only [List.map_toArray, List.map_cons, List.map_nil]); first | done | rfl | (simp only [List.length_drop, List.length_take]; rfl)) ?_
                                        with_reducible refine (bastionlaw07_AddrBytes_1.calls a3 t306 _ A30.out).mono ?_
                                        rintro e w' ⟨rfl, ⟨nd, rfl⟩⟩
                                        refine ⟨_, rfl, ?_⟩
                                        refine hK.out _ _ trivial (fun hHeld => ?_)
                                        clear hK K
                                        refine norm_ (a' := ?_) ?_ ?_
                                        rotate_left
                                        · show Act.put _ (some 76) _ = _
                                          simp only [Act.put, List.setIfInBounds_toArray, List.set_cons_zero, List.set_cons_succ, i64_w, i32_w]
                                          rfl
                                        refine pure_ (i := 22) (N := some 77) (v := ?_) (a' := ?_) #[true, true, true, true, true, true, true, true, true, true, true, true, true, true, true, true, true, true, true, true, true, true, true, false, false, false, false, false, false] rfl rfl (any_of HT_.out (by kernel_rfl)) (fun _ _ _ h => h) (Or.inl ⟨by rfl, ?_⟩) ?_ ?_
                                        rotate_left
                                        · intro w'
                                          go_simp
                                          with_reducible rfl
                                        rotate_left
                                        · simp only [Act.put, List.setIfInBounds_toArray, List.set_cons_zero, List.set_cons_succ, i64_w, i32_w]
                                          rfl
                                        refine one_ (i := 23) (N := some 78) #[true, true, true, true, true, true, true, true, true, true, true, true, true, true, true, true, true, true, true, true, true, true, true, true, false, false, false, false, false] rfl rfl (one_of HT_.out (by kernel_rfl)) (by decide) (fun K hK => ?_)
                                        refine goes_ Tryd.func10 (by kernel_rfl) rfl #[.string (((((((t296 ++ (⟨#[46]⟩ : ByteArray)) ++ t297) ++ (⟨#[46]⟩ : ByteArray)) ++ t298)) ++ (⟨#[46]⟩ : ByteArray)) ++ t306)] (by rfl) rfl rfl (by (try simp only [List.map_toArray, List.map_cons, List.map_nil]); first | done | rfl | (simp only [List.length_drop, List.length_take]; rfl)) ?_
                                        with_reducible refine (addr_V4.calls (((((((t296 ++ (⟨#[46]⟩ : ByteArray)) ++ t297) ++ (⟨#[46]⟩ : ByteArray)) ++ t298)) ++ (⟨#[46]⟩ : ByteArray)) ++ t306) t307 t308 _ ?side1 A32.out).mono ?_
                                        (case side1 => exact UTabs.below HTB.out (by repeat (first | (with_reducible first | exact HB.out | apply below_alloc | apply pw_below_drewN | apply below_drew1) | exact HB.out)))
                                        rintro e w43 ⟨rfl, hb⟩
                                        refine ⟨_, rfl, ?_⟩
                                        have n0_ := Aside0.mk (below_step (by repeat (first | (with_reducible first | exact HB.out | apply below_alloc | apply pw_below_drewN | apply below_drew1) | exact HB.out)) hb)
                                        clear HB
                                        have HB := n0_
                                        clear n0_
                                        (try clear hb)
                                        (try clear hb2)
                                        (try clear hk)
                                        (try clear hi)
                                        refine hK.out _ _ trivial (fun hHeld => ?_)
                                        clear hK K
                                        refine norm_ (a' := ?_) ?_ ?_
                                        rotate_left
                                        · show Act.put _ (some 78) _ = _
                                          simp only [Act.put, List.setIfInBounds_toArray, List.set_cons_zero, List.set_cons_succ, i64_w, i32_w]
                                          rfl
                                        refine pure_ (i := 24) (N := some 54) (v := ?_) (a' := ?_) #[true, true, true, true, true, true, true, true, true, true, true, true, true, true, true, true, true, true, true, true, true, true, true, true, true, false, false, false, false] rfl rfl (any_of HT_.out (by kernel_rfl)) (fun _ _ _ h => h) (Or.inl ⟨by rfl, ?_⟩) ?_ ?_
                                        rotate_left
                                        · intro w'
                                          go_simp
                                          with_reducible rfl
                                        rotate_left
                                        · simp only [Act.put, List.setIfInBounds_toArray, List.set_cons_zero, List.set_cons_succ, i64_w, i32_w]
                                          rfl
                                        refine pure_ (i := 25) (N := some 79) (v := ?_) (a' := ?_) #[true, true, true, true, true, true, true, true, true, true, true, true, true, true, true, true, true, true, true, true, true, true, true, true, true, true, false, false, false] rfl rfl (any_of HT_.out (by kernel_rfl)) (fun _ _ _ h => h) (Or.inl ⟨by rfl, ?_⟩) ?_ ?_
                                        rotate_left
                                        · intro w'
                                          go_simp
                                          with_reducible rfl
                                        rotate_left
                                        · simp only [Act.put, List.setIfInBounds_toArray, List.set_cons_zero, List.set_cons_succ, i64_w, i32_w]
                                          rfl
                                        refine pure_ (i := 26) (N := some 80) (v := ?_) (a' := ?_) #[true, true, true, true, true, true, true, true, true, true, true, true, true, true, true, true, true, true, true, true, true, true, true, true, true, true, true, false, false] rfl rfl (any_of HT_.out (by kernel_rfl)) (fun _ _ _ h => h) (Or.inl ⟨by rfl, ?_⟩) ?_ ?_
                                        rotate_left
                                        · intro w'
                                          go_simp
                                          with_reducible rfl
                                        rotate_left
                                        · simp only [Act.put, List.setIfInBounds_toArray, List.set_cons_zero, List.set_cons_succ, i64_w, i32_w]
                                          rfl
                                        refine pure_ (i := 27) (N := some 14) (v := ?_) (a' := ?_) #[true, true, true, true, true, true, true, true, true, true, true, true, true, true, true, true, true, true, true, true, true, true, true, true, true, true, true, true, false] rfl rfl (any_of HT_.out (by kernel_rfl)) (fun _ _ _ h => h) (Or.inl ⟨by rfl, ?_⟩) ?_ ?_
                                        rotate_left
                                        · intro w'
                                          go_simp
                                          with_reducible rfl
                                        rotate_left
                                        · simp only [Act.put, List.setIfInBounds_toArray, List.set_cons_zero, List.set_cons_succ, i64_w, i32_w]
                                          rfl
                                        refine pure_ (i := 28) (N := some 15) (v := ?_) (a' := ?_) #[true, true, true, true, true, true, true, true, true, true, true, true, true, true, true, true, true, true, true, true, true, true, true, true, true, true, true, true, true] rfl rfl (any_of HT_.out (by kernel_rfl)) (fun _ _ _ h => h) (Or.inl ⟨by rfl, ?_⟩) ?_ ?_
                                        rotate_left
                                        · intro w'
                                          go_simp
                                          with_reducible rfl
                                        rotate_left
                                        · simp only [Act.put, List.setIfInBounds_toArray, List.set_cons_zero, List.set_cons_succ, i64_w, i32_w]
                                          rfl
                                        refine done_ (done_of HT_.out (by kernel_rfl)) ?_
                                        try go_wp2
                                        go_ret
                                        exact ⟨by first | rfl | (simp [errW_none, errW_some] <;> rfl) | (simp [*, errW_none, errW_some] <;> rfl), by repeat (first | (with_reducible first | exact HB.out | apply below_alloc | apply pw_below_drewN | apply below_drew1) | exact HB.out)⟩
                                    · rw [if_neg c34] at H
                                      have c34b0 : (t301 == 0) = false := beq_eq_false_iff_ne.mpr c34
                                      have c34b1 : (t301 != 0) = true := bne_iff_ne.mpr c34
                                      obtain rfl := Option.some.inj H
                                      go_enter Tryd.func8, Tryd.ntmps8
                                      try go_wp2_with (first | ((with_reducible refine gate_callee (f := 14) rfl ?_); refine goesL_ (some 16) rfl rfl Tryd.func14 (by kernel_rfl) rfl #[] rfl (by (try simp only [List.map_toArray, List.map_cons, List.map_nil]); first | done | rfl | (simp only [List.length_drop, List.length_take]; rfl)) ?_; (with_reducible refine (bastionlaw07_lives.calls k  true _ ?side1 A5.out).mono ?_); (case side1 => exact UTabs.below HTB.out (by repeat (first | (with_reducible first | exact HB.out | apply below_alloc | apply pw_below_drewN | apply below_drew1) | exact HB.out))); rintro e w44 ⟨rfl, hb⟩; refine ⟨_, rfl, ?_⟩; have n0_ := Aside0.mk (below_step (by repeat (first | (with_reducible first | exact HB.out | apply below_alloc | apply pw_below_drewN | apply below_drew1) | exact HB.out)) hb); clear HB; have HB := n0_; clear n0_; (try clear hb); (try clear hb2); (try clear hk); (try clear hi)) | ((with_reducible refine gate_calleeV (t := 33) rfl ?_); refine goesLV_ (some 35) rfl rfl Tryd.func21 (by kernel_rfl) rfl #[.int .u8 a0] rfl rfl (by (try simp only [List.map_toArray, List.map_cons, List.map_nil]); first | done | rfl | (simp only [List.length_drop, List.length_take]; rfl)) ?_; (with_reducible refine (bastionlaw07_AddrBytes_1.calls a0 t296 _ A7.out).mono ?_); rintro e w' ⟨rfl, ⟨nd, rfl⟩⟩; refine ⟨_, rfl, ?_⟩) | ((with_reducible refine gate_calleeV (t := 37) rfl ?_); refine goesLV_ (some 39) rfl rfl Tryd.func22 (by kernel_rfl) rfl #[.int .u8 a1] rfl rfl (by (try simp only [List.map_toArray, List.map_cons, List.map_nil]); first | done | rfl | (simp only [List.length_drop, List.length_take]; rfl)) ?_; (with_reducible refine (bastionlaw07_AddrBytes_2.calls a1 t297 _ A9.out).mono ?_); rintro e w' ⟨rfl, ⟨nd, rfl⟩⟩; refine ⟨_, rfl, ?_⟩) | ((with_reducible refine gate_calleeV (t := 42) rfl ?_); refine goesLV_ (some 44) rfl rfl Tryd.func21 (by kernel_rfl) rfl #[.int .u8 a2] rfl rfl (by (try simp only [List.map_toArray, List.map_cons, List.map_nil]); first | done | rfl | (simp only [List.length_drop, List.length_take]; rfl)) ?_; (with_reducible refine (bastionlaw07_AddrBytes_1.calls a2 t298 _ A12.out).mono ?_); rintro e w' ⟨rfl, ⟨nd, rfl⟩⟩; refine ⟨_, rfl, ?_⟩) | ((with_reducible refine gate_calleeV (t := 47) rfl ?_); refine goesLV_ (some 49) rfl rfl Tryd.func22 (by kernel_rfl) rfl #[.int .u8 a3] rfl rfl (by (try simp only [List.map_toArray, List.map_cons, List.map_nil]); first | done | rfl | (simp only [List.length_drop, List.length_take]; rfl)) ?_; (with_reducible refine (bastionlaw07_AddrBytes_2.calls a3 t299 _ A15.out).mono ?_); rintro e w' ⟨rfl, ⟨nd, rfl⟩⟩; refine ⟨_, rfl, ?_⟩) | ((with_reducible refine gate_callee (f := 10) rfl ?_); refine goesL_ (some 51) rfl rfl Tryd.func10 (by kernel_rfl) rfl #[.string ((((((t296 ++ (⟨#[46]⟩ : ByteArray)) ++ t297) ++ (⟨#[46]⟩ : ByteArray)) ++ t298) ++ (⟨#[46]⟩ : ByteArray)) ++ t299)] rfl (by (try simp only [List.map_toArray, List.map_cons, List.map_nil]); first | done | rfl | (simp only [List.length_drop, List.length_take]; rfl)) ?_; (with_reducible refine (addr_V4.calls ((((((t296 ++ (⟨#[46]⟩ : ByteArray)) ++ t297) ++ (⟨#[46]⟩ : ByteArray)) ++ t298) ++ (⟨#[46]⟩ : ByteArray)) ++ t299) t300 t301 _ ?side1 A17.out).mono ?_); (case side1 => exact UTabs.below HTB.out (by repeat (first | (with_reducible first | exact HB.out | apply below_alloc | apply pw_below_drewN | apply below_drew1) | exact HB.out))); rintro e w45 ⟨rfl, hb⟩; refine ⟨_, rfl, ?_⟩; have n0_ := Aside0.mk (below_step (by repeat (first | (with_reducible first | exact HB.out | apply below_alloc | apply pw_below_drewN | apply below_drew1) | exact HB.out)) hb); clear HB; have HB := n0_; clear n0_; (try clear hb); (try clear hb2); (try clear hk); (try clear hi)))
                                      have n0_ := Aside0.mk (below_drew1 HB.out)
                                      clear HB
                                      have HB := n0_
                                      clear n0_
                                      refine start_ (n := 29) (S := fun w' => True) (ds := []) #[false, false, false, false, false, false, false, false, false, false, false, false, false, false, false, false, false, false, false, false, false, false, false, false, false, false, false, false, false] (by kernel_rfl) rfl rfl trivial (fun hHeld => ?_); refine with_tabW bastionlaw07_AddrBytes.tab7 bastionlaw07_AddrBytes.bits7 (fun HT_ HW_ => ?_)
                                      generalize w45.drew = w46 at HB hHeld ⊢
                                      refine pure_ (i := 0) (N := some 55) (v := ?_) (a' := ?_) #[true, false, false, false, false, false, false, false, false, false, false, false, false, false, false, false, false, false, false, false, false, false, false, false, false, false, false, false, false] rfl rfl (any_of HT_.out (by kernel_rfl)) (fun _ _ _ h => h) (Or.inl ⟨by rfl, ?_⟩) ?_ ?_
                                      rotate_left
                                      · intro w'
                                        go_simp
                                        with_reducible rfl
                                      rotate_left
                                      · simp only [Act.put, List.setIfInBounds_toArray, List.set_cons_zero, List.set_cons_succ, i64_w, i32_w]
                                        rfl
                                      refine pure_ (i := 1) (N := some 56) (v := ?_) (a' := ?_) #[true, true, false, false, false, false, false, false, false, false, false, false, false, false, false, false, false, false, false, false, false, false, false, false, false, false, false, false, false] rfl rfl (any_of HT_.out (by kernel_rfl)) (fun _ _ _ h => h) (Or.inl ⟨by rfl, ?_⟩) ?_ ?_
                                      rotate_left
                                      · intro w'
                                        go_simp
                                        with_reducible rfl
                                      rotate_left
                                      · simp only [Act.put, List.setIfInBounds_toArray, List.set_cons_zero, List.set_cons_succ, i64_w, i32_w]
                                        rfl
                                      refine pure_ (i := 4) (N := some 59) (v := ?_) (a' := ?_) #[true, true, false, false, true, false, false, false, false, false, false, false, false, false, false, false, false, false, false, false, false, false, false, false, false, false, false, false, false] rfl rfl (any_of HT_.out (by kernel_rfl)) (fun _ _ _ h => h) (Or.inl ⟨by rfl, ?_⟩) ?_ ?_
                                      rotate_left
                                      · intro w'
                                        go_simp
                                        with_reducible rfl
                                      rotate_left
                                      · simp only [Act.put, List.setIfInBounds_toArray, List.set_cons_zero, List.set_cons_succ, i64_w, i32_w]
                                        rfl
                                      refine pure_ (i := 5) (N := some 60) (v := ?_) (a' := ?_) #[true, true, false, false, true, true, false, false, false, false, false, false, false, false, false, false, false, false, false, false, false, false, false, false, false, false, false, false, false] rfl rfl (any_of HT_.out (by kernel_rfl)) (fun _ _ _ h => h) (Or.inl ⟨by rfl, ?_⟩) ?_ ?_
                                      rotate_left
                                      · intro w'
                                        go_simp
                                        with_reducible rfl
                                      rotate_left
                                      · simp only [Act.put, List.setIfInBounds_toArray, List.set_cons_zero, List.set_cons_succ, i64_w, i32_w]
                                        rfl
                                      refine pure_ (i := 9) (N := some 64) (v := ?_) (a' := ?_) #[true, true, false, false, true, true, false, false, false, true, false, false, false, false, false, false, false, false, false, false, false, false, false, false, false, false, false, false, false] rfl rfl (any_of HT_.out (by kernel_rfl)) (fun _ _ _ h => h) (Or.inl ⟨by rfl, ?_⟩) ?_ ?_
                                      rotate_left
                                      · intro w'
                                        go_simp
                                        with_reducible rfl
                                      rotate_left
                                      · simp only [Act.put, List.setIfInBounds_toArray, List.set_cons_zero, List.set_cons_succ, i64_w, i32_w]
                                        rfl
                                      refine pure_ (i := 10) (N := some 65) (v := ?_) (a' := ?_) #[true, true, false, false, true, true, false, false, false, true, true, false, false, false, false, false, false, false, false, false, false, false, false, false, false, false, false, false, false] rfl rfl (any_of HT_.out (by kernel_rfl)) (fun _ _ _ h => h) (Or.inl ⟨by rfl, ?_⟩) ?_ ?_
                                      rotate_left
                                      · intro w'
                                        go_simp
                                        with_reducible rfl
                                      rotate_left
                                      · simp only [Act.put, List.setIfInBounds_toArray, List.set_cons_zero, List.set_cons_succ, i64_w, i32_w]
                                        rfl
                                      refine pure_ (i := 13) (N := some 68) (v := ?_) (a' := ?_) #[true, true, false, false, true, true, false, false, false, true, true, false, false, true, false, false, false, false, false, false, false, false, false, false, false, false, false, false, false] rfl rfl (any_of HT_.out (by kernel_rfl)) (fun _ _ _ h => h) (Or.inl ⟨by rfl, ?_⟩) ?_ ?_
                                      rotate_left
                                      · intro w'
                                        go_simp
                                        with_reducible rfl
                                      rotate_left
                                      · simp only [Act.put, List.setIfInBounds_toArray, List.set_cons_zero, List.set_cons_succ, i64_w, i32_w]
                                        rfl
                                      refine pure_ (i := 14) (N := some 69) (v := ?_) (a' := ?_) #[true, true, false, false, true, true, false, false, false, true, true, false, false, true, true, false, false, false, false, false, false, false, false, false, false, false, false, false, false] rfl rfl (any_of HT_.out (by kernel_rfl)) (fun _ _ _ h => h) (Or.inl ⟨by rfl, ?_⟩) ?_ ?_
                                      rotate_left
                                      · intro w'
                                        go_simp
                                        with_reducible rfl
                                      rotate_left
                                      · simp only [Act.put, List.setIfInBounds_toArray, List.set_cons_zero, List.set_cons_succ, i64_w, i32_w]
                                        rfl
                                      refine pure_ (i := 19) (N := some 74) (v := ?_) (a' := ?_) #[true, true, false, false, true, true, false, false, false, true, true, false, false, true, true, false, false, false, false, true, false, false, false, false, false, false, false, false, false] rfl rfl (any_of HT_.out (by kernel_rfl)) (fun _ _ _ h => h) (Or.inl ⟨by rfl, ?_⟩) ?_ ?_
                                      rotate_left
                                      · intro w'
                                        go_simp
                                        with_reducible rfl
                                      rotate_left
                                      · simp only [Act.put, List.setIfInBounds_toArray, List.set_cons_zero, List.set_cons_succ, i64_w, i32_w]
                                        rfl
                                      refine pure_ (i := 20) (N := some 75) (v := ?_) (a' := ?_) #[true, true, false, false, true, true, false, false, false, true, true, false, false, true, true, false, false, false, false, true, true, false, false, false, false, false, false, false, false] rfl rfl (any_of HT_.out (by kernel_rfl)) (fun _ _ _ h => h) (Or.inl ⟨by rfl, ?_⟩) ?_ ?_
                                      rotate_left
                                      · intro w'
                                        go_simp
                                        with_reducible rfl
                                      rotate_left
                                      · simp only [Act.put, List.setIfInBounds_toArray, List.set_cons_zero, List.set_cons_succ, i64_w, i32_w]
                                        rfl
                                      refine one_ (i := 2) (N := some 57) #[true, true, true, false, true, true, false, false, false, true, true, false, false, true, true, false, false, false, false, true, true, false, false, false, false, false, false, false, false] rfl rfl (one_of HT_.out (by kernel_rfl)) (by decide) (fun K hK => ?_)
                                      refine goesV_ Tryd.func21 (by kernel_rfl) rfl #[.int .u8 a0] (by rfl) rfl rfl rfl (by (try simp only [List.map_toArray, List.map_cons, List.map_nil]); first | done | rfl | (simp only [List.length_drop, List.length_take]; rfl)) ?_
                                      with_reducible refine (bastionlaw07_AddrBytes_1.calls a0 t296 _ A18.out).mono ?_
                                      rintro e w' ⟨rfl, ⟨nd, rfl⟩⟩
                                      refine ⟨_, rfl, ?_⟩
                                      refine hK.out _ _ trivial (fun hHeld => ?_)
                                      clear hK K
                                      refine norm_ (a' := ?_) ?_ ?_
                                      rotate_left
                                      · show Act.put _ (some 57) _ = _
                                        simp only [Act.put, List.setIfInBounds_toArray, List.set_cons_zero, List.set_cons_succ, i64_w, i32_w]
                                        rfl
                                      refine pure_ (i := 3) (N := some 58) (v := ?_) (a' := ?_) #[true, true, true, true, true, true, false, false, false, true, true, false, false, true, true, false, false, false, false, true, true, false, false, false, false, false, false, false, false] rfl rfl (any_of HT_.out (by kernel_rfl)) (fun _ _ _ h => h) (Or.inl ⟨by rfl, ?_⟩) ?_ ?_
                                      rotate_left
                                      · intro w'
                                        go_simp
                                        with_reducible rfl
                                      rotate_left
                                      · simp only [Act.put, List.setIfInBounds_toArray, List.set_cons_zero, List.set_cons_succ, i64_w, i32_w]
                                        rfl
                                      refine one_ (i := 6) (N := some 61) #[true, true, true, true, true, true, true, false, false, true, true, false, false, true, true, false, false, false, false, true, true, false, false, false, false, false, false, false, false] rfl rfl (one_of HT_.out (by kernel_rfl)) (by decide) (fun K hK => ?_)
                                      refine goesV_ Tryd.func22 (by kernel_rfl) rfl #[.int .u8 a1] (by rfl) rfl rfl rfl (by (try simp only [List.map_toArray, List.map_cons, List.map_nil]); first | done | rfl | (simp only [List.length_drop, List.length_take]; rfl)) ?_
                                      with_reducible refine (bastionlaw07_AddrBytes_2.calls a1 t297 _ A20.out).mono ?_
                                      rintro e w' ⟨rfl, ⟨nd, rfl⟩⟩
                                      refine ⟨_, rfl, ?_⟩
                                      refine hK.out _ _ trivial (fun hHeld => ?_)
                                      clear hK K
                                      refine norm_ (a' := ?_) ?_ ?_
                                      rotate_left
                                      · show Act.put _ (some 61) _ = _
                                        simp only [Act.put, List.setIfInBounds_toArray, List.set_cons_zero, List.set_cons_succ, i64_w, i32_w]
                                        rfl
                                      refine pure_ (i := 7) (N := some 62) (v := ?_) (a' := ?_) #[true, true, true, true, true, true, true, true, false, true, true, false, false, true, true, false, false, false, false, true, true, false, false, false, false, false, false, false, false] rfl rfl (any_of HT_.out (by kernel_rfl)) (fun _ _ _ h => h) (Or.inl ⟨by rfl, ?_⟩) ?_ ?_
                                      rotate_left
                                      · intro w'
                                        go_simp
                                        with_reducible rfl
                                      rotate_left
                                      · simp only [Act.put, List.setIfInBounds_toArray, List.set_cons_zero, List.set_cons_succ, i64_w, i32_w]
                                        rfl
                                      refine pure_ (i := 8) (N := some 63) (v := ?_) (a' := ?_) #[true, true, true, true, true, true, true, true, true, true, true, false, false, true, true, false, false, false, false, true, true, false, false, false, false, false, false, false, false] rfl rfl (any_of HT_.out (by kernel_rfl)) (fun _ _ _ h => h) (Or.inl ⟨by rfl, ?_⟩) ?_ ?_
                                      rotate_left
                                      · intro w'
                                        go_simp
                                        with_reducible rfl
                                      rotate_left
                                      · simp only [Act.put, List.setIfInBounds_toArray, List.set_cons_zero, List.set_cons_succ, i64_w, i32_w]
                                        rfl
                                      refine one_ (i := 11) (N := some 66) #[true, true, true, true, true, true, true, true, true, true, true, true, false, true, true, false, false, false, false, true, true, false, false, false, false, false, false, false, false] rfl rfl (one_of HT_.out (by kernel_rfl)) (by decide) (fun K hK => ?_)
                                      refine goesV_ Tryd.func21 (by kernel_rfl) rfl #[.int .u8 a2] (by rfl) rfl rfl rfl (by (try simp only [List.map_toArray, List.map_cons, List.map_nil]); first | done | rfl | (simp only [List.length_drop, List.length_take]; rfl)) ?_
                                      with_reducible refine (bastionlaw07_AddrBytes_1.calls a2 t298 _ A23.out).mono ?_
                                      rintro e w' ⟨rfl, ⟨nd, rfl⟩⟩
                                      refine ⟨_, rfl, ?_⟩
                                      refine hK.out _ _ trivial (fun hHeld => ?_)
                                      clear hK K
                                      refine norm_ (a' := ?_) ?_ ?_
                                      rotate_left
                                      · show Act.put _ (some 66) _ = _
                                        simp only [Act.put, List.setIfInBounds_toArray, List.set_cons_zero, List.set_cons_succ, i64_w, i32_w]
                                        rfl
                                      refine pure_ (i := 12) (N := some 67) (v := ?_) (a' := ?_) #[true, true, true, true, true, true, true, true, true, true, true, true, true, true, true, false, false, false, false, true, true, false, false, false, false, false, false, false, false] rfl rfl (any_of HT_.out (by kernel_rfl)) (fun _ _ _ h => h) (Or.inl ⟨by rfl, ?_⟩) ?_ ?_
                                      rotate_left
                                      · intro w'
                                        go_simp
                                        with_reducible rfl
                                      rotate_left
                                      · simp only [Act.put, List.setIfInBounds_toArray, List.set_cons_zero, List.set_cons_succ, i64_w, i32_w]
                                        rfl
                                      refine one_ (i := 15) (N := some 70) #[true, true, true, true, true, true, true, true, true, true, true, true, true, true, true, true, false, false, false, true, true, false, false, false, false, false, false, false, false] rfl rfl (one_of HT_.out (by kernel_rfl)) (by decide) (fun K hK => ?_)
                                      refine goesV_ Tryd.func22 (by kernel_rfl) rfl #[.int .u8 a3] (by rfl) rfl rfl rfl (by (try simp only [List.map_toArray, List.map_cons, List.map_nil]); first | done | rfl | (simp only [List.length_drop, List.length_take]; rfl)) ?_
                                      with_reducible refine (bastionlaw07_AddrBytes_2.calls a3 t299 _ A25.out).mono ?_
                                      rintro e w' ⟨rfl, ⟨nd, rfl⟩⟩
                                      refine ⟨_, rfl, ?_⟩
                                      refine hK.out _ _ trivial (fun hHeld => ?_)
                                      clear hK K
                                      refine norm_ (a' := ?_) ?_ ?_
                                      rotate_left
                                      · show Act.put _ (some 70) _ = _
                                        simp only [Act.put, List.setIfInBounds_toArray, List.set_cons_zero, List.set_cons_succ, i64_w, i32_w]
                                        rfl
                                      refine pure_ (i := 16) (N := some 71) (v := ?_) (a' := ?_) #[true, true, true, true, true, true, true, true, true, true, true, true, true, true, true, true, true, false, false, true, true, false, false, false, false, false, false, false, false] rfl rfl (any_of HT_.out (by kernel_rfl)) (fun _ _ _ h => h) (Or.inl ⟨by rfl, ?_⟩) ?_ ?_
                                      rotate_left
                                      · intro w'
                                        go_simp
                                        with_reducible rfl
                                      rotate_left
                                      · simp only [Act.put, List.setIfInBounds_toArray, List.set_cons_zero, List.set_cons_succ, i64_w, i32_w]
                                        rfl
                                      refine pure_ (i := 17) (N := some 72) (v := ?_) (a' := ?_) #[true, true, true, true, true, true, true, true, true, true, true, true, true, true, true, true, true, true, false, true, true, false, false, false, false, false, false, false, false] rfl rfl (any_of HT_.out (by kernel_rfl)) (fun _ _ _ h => h) (Or.inl ⟨by rfl, ?_⟩) ?_ ?_
                                      rotate_left
                                      · intro w'
                                        go_simp
                                        with_reducible rfl
                                      rotate_left
                                      · simp only [Act.put, List.setIfInBounds_toArray, List.set_cons_zero, List.set_cons_succ, i64_w, i32_w]
                                        rfl
                                      refine pure_ (i := 18) (N := some 73) (v := ?_) (a' := ?_) #[true, true, true, true, true, true, true, true, true, true, true, true, true, true, true, true, true, true, true, true, true, false, false, false, false, false, false, false, false] rfl rfl (any_of HT_.out (by kernel_rfl)) (fun _ _ _ h => h) (Or.inl ⟨by rfl, ?_⟩) ?_ ?_
                                      rotate_left
                                      · intro w'
                                        go_simp
                                        with_reducible rfl
                                      rotate_left
                                      · simp only [Act.put, List.setIfInBounds_toArray, List.set_cons_zero, List.set_cons_succ, i64_w, i32_w]
                                        rfl
                                      refine one_ (i := 21) (N := some 76) #[true, true, true, true, true, true, true, true, true, true, true, true, true, true, true, true, true, true, true, true, true, true, false, false, false, false, false, false, false] rfl rfl (one_of HT_.out (by kernel_rfl)) (by decide) (fun K hK => ?_)
                                      refine goesV_ Tryd.func21 (by kernel_rfl) rfl #[.int .u8 a3] (by rfl) rfl rfl rfl (by (try simp only [List.map_toArray, List.map_cons, List.map_nil]); first | done | rfl | (simp only [List.length_drop, List.length_take]; rfl)) ?_
                                      with_reducible refine (bastionlaw07_AddrBytes_1.calls a3 t306 _ A30.out).mono ?_
                                      rintro e w' ⟨rfl, ⟨nd, rfl⟩⟩
                                      refine ⟨_, rfl, ?_⟩
                                      refine hK.out _ _ trivial (fun hHeld => ?_)
                                      clear hK K
                                      refine norm_ (a' := ?_) ?_ ?_
                                      rotate_left
                                      · show Act.put _ (some 76) _ = _
                                        simp only [Act.put, List.setIfInBounds_toArray, List.set_cons_zero, List.set_cons_succ, i64_w, i32_w]
                                        rfl
                                      refine pure_ (i := 22) (N := some 77) (v := ?_) (a' := ?_) #[true, true, true, true, true, true, true, true, true, true, true, true, true, true, true, true, true, true, true, true, true, true, true, false, false, false, false, false, false] rfl rfl (any_of HT_.out (by kernel_rfl)) (fun _ _ _ h => h) (Or.inl ⟨by rfl, ?_⟩) ?_ ?_
                                      rotate_left
                                      · intro w'
                                        go_simp
                                        with_reducible rfl
                                      rotate_left
                                      · simp only [Act.put, List.setIfInBounds_toArray, List.set_cons_zero, List.set_cons_succ, i64_w, i32_w]
                                        rfl
                                      refine one_ (i := 23) (N := some 78) #[true, true, true, true, true, true, true, true, true, true, true, true, true, true, true, true, true, true, true, true, true, true, true, true, false, false, false, false, false] rfl rfl (one_of HT_.out (by kernel_rfl)) (by decide) (fun K hK => ?_)
                                      refine goes_ Tryd.func10 (by kernel_rfl) rfl #[.string (((((((t296 ++ (⟨#[46]⟩ : ByteArray)) ++ t297) ++ (⟨#[46]⟩ : ByteArray)) ++ t298)) ++ (⟨#[46]⟩ : ByteArray)) ++ t306)] (by rfl) rfl rfl (by (try simp only [List.map_toArray, List.map_cons, List.map_nil]); first | done | rfl | (simp only [List.length_drop, List.length_take]; rfl)) ?_
                                      with_reducible refine (addr_V4.calls (((((((t296 ++ (⟨#[46]⟩ : ByteArray)) ++ t297) ++ (⟨#[46]⟩ : ByteArray)) ++ t298)) ++ (⟨#[46]⟩ : ByteArray)) ++ t306) t307 t308 _ ?side1 A32.out).mono ?_
                                      (case side1 => exact UTabs.below HTB.out (by repeat (first | (with_reducible first | exact HB.out | apply below_alloc | apply pw_below_drewN | apply below_drew1) | exact HB.out)))
                                      rintro e w47 ⟨rfl, hb⟩
                                      refine ⟨_, rfl, ?_⟩
                                      have n0_ := Aside0.mk (below_step (by repeat (first | (with_reducible first | exact HB.out | apply below_alloc | apply pw_below_drewN | apply below_drew1) | exact HB.out)) hb)
                                      clear HB
                                      have HB := n0_
                                      clear n0_
                                      (try clear hb)
                                      (try clear hb2)
                                      (try clear hk)
                                      (try clear hi)
                                      refine hK.out _ _ trivial (fun hHeld => ?_)
                                      clear hK K
                                      refine norm_ (a' := ?_) ?_ ?_
                                      rotate_left
                                      · show Act.put _ (some 78) _ = _
                                        simp only [Act.put, List.setIfInBounds_toArray, List.set_cons_zero, List.set_cons_succ, i64_w, i32_w]
                                        rfl
                                      refine pure_ (i := 24) (N := some 54) (v := ?_) (a' := ?_) #[true, true, true, true, true, true, true, true, true, true, true, true, true, true, true, true, true, true, true, true, true, true, true, true, true, false, false, false, false] rfl rfl (any_of HT_.out (by kernel_rfl)) (fun _ _ _ h => h) (Or.inl ⟨by rfl, ?_⟩) ?_ ?_
                                      rotate_left
                                      · intro w'
                                        go_simp
                                        with_reducible rfl
                                      rotate_left
                                      · simp only [Act.put, List.setIfInBounds_toArray, List.set_cons_zero, List.set_cons_succ, i64_w, i32_w]
                                        rfl
                                      refine pure_ (i := 25) (N := some 79) (v := ?_) (a' := ?_) #[true, true, true, true, true, true, true, true, true, true, true, true, true, true, true, true, true, true, true, true, true, true, true, true, true, true, false, false, false] rfl rfl (any_of HT_.out (by kernel_rfl)) (fun _ _ _ h => h) (Or.inl ⟨by rfl, ?_⟩) ?_ ?_
                                      rotate_left
                                      · intro w'
                                        go_simp
                                        with_reducible rfl
                                      rotate_left
                                      · simp only [Act.put, List.setIfInBounds_toArray, List.set_cons_zero, List.set_cons_succ, i64_w, i32_w]
                                        rfl
                                      refine pure_ (i := 26) (N := some 80) (v := ?_) (a' := ?_) #[true, true, true, true, true, true, true, true, true, true, true, true, true, true, true, true, true, true, true, true, true, true, true, true, true, true, true, false, false] rfl rfl (any_of HT_.out (by kernel_rfl)) (fun _ _ _ h => h) (Or.inl ⟨by rfl, ?_⟩) ?_ ?_
                                      rotate_left
                                      · intro w'
                                        go_simp
                                        with_reducible rfl
                                      rotate_left
                                      · simp only [Act.put, List.setIfInBounds_toArray, List.set_cons_zero, List.set_cons_succ, i64_w, i32_w]
                                        rfl
                                      refine pure_ (i := 27) (N := some 14) (v := ?_) (a' := ?_) #[true, true, true, true, true, true, true, true, true, true, true, true, true, true, true, true, true, true, true, true, true, true, true, true, true, true, true, true, false] rfl rfl (any_of HT_.out (by kernel_rfl)) (fun _ _ _ h => h) (Or.inl ⟨by rfl, ?_⟩) ?_ ?_
                                      rotate_left
                                      · intro w'
                                        go_simp
                                        with_reducible rfl
                                      rotate_left
                                      · simp only [Act.put, List.setIfInBounds_toArray, List.set_cons_zero, List.set_cons_succ, i64_w, i32_w]
                                        rfl
                                      refine pure_ (i := 28) (N := some 15) (v := ?_) (a' := ?_) #[true, true, true, true, true, true, true, true, true, true, true, true, true, true, true, true, true, true, true, true, true, true, true, true, true, true, true, true, true] rfl rfl (any_of HT_.out (by kernel_rfl)) (fun _ _ _ h => h) (Or.inl ⟨by rfl, ?_⟩) ?_ ?_
                                      rotate_left
                                      · intro w'
                                        go_simp
                                        with_reducible rfl
                                      rotate_left
                                      · simp only [Act.put, List.setIfInBounds_toArray, List.set_cons_zero, List.set_cons_succ, i64_w, i32_w]
                                        rfl
                                      refine done_ (done_of HT_.out (by kernel_rfl)) ?_
                                      try go_wp2
                                      go_ret
                                      exact ⟨by first | rfl | (simp [errW_none, errW_some] <;> rfl) | (simp [*, errW_none, errW_some] <;> rfl), by repeat (first | (with_reducible first | exact HB.out | apply below_alloc | apply pw_below_drewN | apply below_drew1) | exact HB.out)⟩
                                  · rw [if_neg c33] at H
                                    have c33b0 : (t300 == (Go.bits .or .u32 (Go.bits .or .u32 (Go.bits .or .u32 ((((a0) % 4294967296) * 16777216) % 4294967296) ((((a1) % 4294967296) * 65536) % 4294967296)) ((((a2) % 4294967296) * 256) % 4294967296)) ((a3) % 4294967296))) = false := beq_eq_false_iff_ne.mpr c33
                                    have c33b1 : (t300 != (Go.bits .or .u32 (Go.bits .or .u32 (Go.bits .or .u32 ((((a0) % 4294967296) * 16777216) % 4294967296) ((((a1) % 4294967296) * 65536) % 4294967296)) ((((a2) % 4294967296) * 256) % 4294967296)) ((a3) % 4294967296))) = true := bne_iff_ne.mpr c33
                                    obtain rfl := Option.some.inj H
                                    go_enter Tryd.func8, Tryd.ntmps8
                                    try go_wp2_with (first | ((with_reducible refine gate_callee (f := 14) rfl ?_); refine goesL_ (some 16) rfl rfl Tryd.func14 (by kernel_rfl) rfl #[] rfl (by (try simp only [List.map_toArray, List.map_cons, List.map_nil]); first | done | rfl | (simp only [List.length_drop, List.length_take]; rfl)) ?_; (with_reducible refine (bastionlaw07_lives.calls k  true _ ?side1 A5.out).mono ?_); (case side1 => exact UTabs.below HTB.out (by repeat (first | (with_reducible first | exact HB.out | apply below_alloc | apply pw_below_drewN | apply below_drew1) | exact HB.out))); rintro e w48 ⟨rfl, hb⟩; refine ⟨_, rfl, ?_⟩; have n0_ := Aside0.mk (below_step (by repeat (first | (with_reducible first | exact HB.out | apply below_alloc | apply pw_below_drewN | apply below_drew1) | exact HB.out)) hb); clear HB; have HB := n0_; clear n0_; (try clear hb); (try clear hb2); (try clear hk); (try clear hi)) | ((with_reducible refine gate_calleeV (t := 33) rfl ?_); refine goesLV_ (some 35) rfl rfl Tryd.func21 (by kernel_rfl) rfl #[.int .u8 a0] rfl rfl (by (try simp only [List.map_toArray, List.map_cons, List.map_nil]); first | done | rfl | (simp only [List.length_drop, List.length_take]; rfl)) ?_; (with_reducible refine (bastionlaw07_AddrBytes_1.calls a0 t296 _ A7.out).mono ?_); rintro e w' ⟨rfl, ⟨nd, rfl⟩⟩; refine ⟨_, rfl, ?_⟩) | ((with_reducible refine gate_calleeV (t := 37) rfl ?_); refine goesLV_ (some 39) rfl rfl Tryd.func22 (by kernel_rfl) rfl #[.int .u8 a1] rfl rfl (by (try simp only [List.map_toArray, List.map_cons, List.map_nil]); first | done | rfl | (simp only [List.length_drop, List.length_take]; rfl)) ?_; (with_reducible refine (bastionlaw07_AddrBytes_2.calls a1 t297 _ A9.out).mono ?_); rintro e w' ⟨rfl, ⟨nd, rfl⟩⟩; refine ⟨_, rfl, ?_⟩) | ((with_reducible refine gate_calleeV (t := 42) rfl ?_); refine goesLV_ (some 44) rfl rfl Tryd.func21 (by kernel_rfl) rfl #[.int .u8 a2] rfl rfl (by (try simp only [List.map_toArray, List.map_cons, List.map_nil]); first | done | rfl | (simp only [List.length_drop, List.length_take]; rfl)) ?_; (with_reducible refine (bastionlaw07_AddrBytes_1.calls a2 t298 _ A12.out).mono ?_); rintro e w' ⟨rfl, ⟨nd, rfl⟩⟩; refine ⟨_, rfl, ?_⟩) | ((with_reducible refine gate_calleeV (t := 47) rfl ?_); refine goesLV_ (some 49) rfl rfl Tryd.func22 (by kernel_rfl) rfl #[.int .u8 a3] rfl rfl (by (try simp only [List.map_toArray, List.map_cons, List.map_nil]); first | done | rfl | (simp only [List.length_drop, List.length_take]; rfl)) ?_; (with_reducible refine (bastionlaw07_AddrBytes_2.calls a3 t299 _ A15.out).mono ?_); rintro e w' ⟨rfl, ⟨nd, rfl⟩⟩; refine ⟨_, rfl, ?_⟩) | ((with_reducible refine gate_callee (f := 10) rfl ?_); refine goesL_ (some 51) rfl rfl Tryd.func10 (by kernel_rfl) rfl #[.string ((((((t296 ++ (⟨#[46]⟩ : ByteArray)) ++ t297) ++ (⟨#[46]⟩ : ByteArray)) ++ t298) ++ (⟨#[46]⟩ : ByteArray)) ++ t299)] rfl (by (try simp only [List.map_toArray, List.map_cons, List.map_nil]); first | done | rfl | (simp only [List.length_drop, List.length_take]; rfl)) ?_; (with_reducible refine (addr_V4.calls ((((((t296 ++ (⟨#[46]⟩ : ByteArray)) ++ t297) ++ (⟨#[46]⟩ : ByteArray)) ++ t298) ++ (⟨#[46]⟩ : ByteArray)) ++ t299) t300 t301 _ ?side1 A17.out).mono ?_); (case side1 => exact UTabs.below HTB.out (by repeat (first | (with_reducible first | exact HB.out | apply below_alloc | apply pw_below_drewN | apply below_drew1) | exact HB.out))); rintro e w49 ⟨rfl, hb⟩; refine ⟨_, rfl, ?_⟩; have n0_ := Aside0.mk (below_step (by repeat (first | (with_reducible first | exact HB.out | apply below_alloc | apply pw_below_drewN | apply below_drew1) | exact HB.out)) hb); clear HB; have HB := n0_; clear n0_; (try clear hb); (try clear hb2); (try clear hk); (try clear hi)))
                                    have n0_ := Aside0.mk (below_drew1 HB.out)
                                    clear HB
                                    have HB := n0_
                                    clear n0_
                                    refine start_ (n := 29) (S := fun w' => True) (ds := []) #[false, false, false, false, false, false, false, false, false, false, false, false, false, false, false, false, false, false, false, false, false, false, false, false, false, false, false, false, false] (by kernel_rfl) rfl rfl trivial (fun hHeld => ?_); refine with_tabW bastionlaw07_AddrBytes.tab7 bastionlaw07_AddrBytes.bits7 (fun HT_ HW_ => ?_)
                                    generalize w49.drew = w50 at HB hHeld ⊢
                                    refine pure_ (i := 0) (N := some 55) (v := ?_) (a' := ?_) #[true, false, false, false, false, false, false, false, false, false, false, false, false, false, false, false, false, false, false, false, false, false, false, false, false, false, false, false, false] rfl rfl (any_of HT_.out (by kernel_rfl)) (fun _ _ _ h => h) (Or.inl ⟨by rfl, ?_⟩) ?_ ?_
                                    rotate_left
                                    · intro w'
                                      go_simp
                                      with_reducible rfl
                                    rotate_left
                                    · simp only [Act.put, List.setIfInBounds_toArray, List.set_cons_zero, List.set_cons_succ, i64_w, i32_w]
                                      rfl
                                    refine pure_ (i := 1) (N := some 56) (v := ?_) (a' := ?_) #[true, true, false, false, false, false, false, false, false, false, false, false, false, false, false, false, false, false, false, false, false, false, false, false, false, false, false, false, false] rfl rfl (any_of HT_.out (by kernel_rfl)) (fun _ _ _ h => h) (Or.inl ⟨by rfl, ?_⟩) ?_ ?_
                                    rotate_left
                                    · intro w'
                                      go_simp
                                      with_reducible rfl
                                    rotate_left
                                    · simp only [Act.put, List.setIfInBounds_toArray, List.set_cons_zero, List.set_cons_succ, i64_w, i32_w]
                                      rfl
                                    refine pure_ (i := 4) (N := some 59) (v := ?_) (a' := ?_) #[true, true, false, false, true, false, false, false, false, false, false, false, false, false, false, false, false, false, false, false, false, false, false, false, false, false, false, false, false] rfl rfl (any_of HT_.out (by kernel_rfl)) (fun _ _ _ h => h) (Or.inl ⟨by rfl, ?_⟩) ?_ ?_
                                    rotate_left
                                    · intro w'
                                      go_simp
                                      with_reducible rfl
                                    rotate_left
                                    · simp only [Act.put, List.setIfInBounds_toArray, List.set_cons_zero, List.set_cons_succ, i64_w, i32_w]
                                      rfl
                                    refine pure_ (i := 5) (N := some 60) (v := ?_) (a' := ?_) #[true, true, false, false, true, true, false, false, false, false, false, false, false, false, false, false, false, false, false, false, false, false, false, false, false, false, false, false, false] rfl rfl (any_of HT_.out (by kernel_rfl)) (fun _ _ _ h => h) (Or.inl ⟨by rfl, ?_⟩) ?_ ?_
                                    rotate_left
                                    · intro w'
                                      go_simp
                                      with_reducible rfl
                                    rotate_left
                                    · simp only [Act.put, List.setIfInBounds_toArray, List.set_cons_zero, List.set_cons_succ, i64_w, i32_w]
                                      rfl
                                    refine pure_ (i := 9) (N := some 64) (v := ?_) (a' := ?_) #[true, true, false, false, true, true, false, false, false, true, false, false, false, false, false, false, false, false, false, false, false, false, false, false, false, false, false, false, false] rfl rfl (any_of HT_.out (by kernel_rfl)) (fun _ _ _ h => h) (Or.inl ⟨by rfl, ?_⟩) ?_ ?_
                                    rotate_left
                                    · intro w'
                                      go_simp
                                      with_reducible rfl
                                    rotate_left
                                    · simp only [Act.put, List.setIfInBounds_toArray, List.set_cons_zero, List.set_cons_succ, i64_w, i32_w]
                                      rfl
                                    refine pure_ (i := 10) (N := some 65) (v := ?_) (a' := ?_) #[true, true, false, false, true, true, false, false, false, true, true, false, false, false, false, false, false, false, false, false, false, false, false, false, false, false, false, false, false] rfl rfl (any_of HT_.out (by kernel_rfl)) (fun _ _ _ h => h) (Or.inl ⟨by rfl, ?_⟩) ?_ ?_
                                    rotate_left
                                    · intro w'
                                      go_simp
                                      with_reducible rfl
                                    rotate_left
                                    · simp only [Act.put, List.setIfInBounds_toArray, List.set_cons_zero, List.set_cons_succ, i64_w, i32_w]
                                      rfl
                                    refine pure_ (i := 13) (N := some 68) (v := ?_) (a' := ?_) #[true, true, false, false, true, true, false, false, false, true, true, false, false, true, false, false, false, false, false, false, false, false, false, false, false, false, false, false, false] rfl rfl (any_of HT_.out (by kernel_rfl)) (fun _ _ _ h => h) (Or.inl ⟨by rfl, ?_⟩) ?_ ?_
                                    rotate_left
                                    · intro w'
                                      go_simp
                                      with_reducible rfl
                                    rotate_left
                                    · simp only [Act.put, List.setIfInBounds_toArray, List.set_cons_zero, List.set_cons_succ, i64_w, i32_w]
                                      rfl
                                    refine pure_ (i := 14) (N := some 69) (v := ?_) (a' := ?_) #[true, true, false, false, true, true, false, false, false, true, true, false, false, true, true, false, false, false, false, false, false, false, false, false, false, false, false, false, false] rfl rfl (any_of HT_.out (by kernel_rfl)) (fun _ _ _ h => h) (Or.inl ⟨by rfl, ?_⟩) ?_ ?_
                                    rotate_left
                                    · intro w'
                                      go_simp
                                      with_reducible rfl
                                    rotate_left
                                    · simp only [Act.put, List.setIfInBounds_toArray, List.set_cons_zero, List.set_cons_succ, i64_w, i32_w]
                                      rfl
                                    refine pure_ (i := 19) (N := some 74) (v := ?_) (a' := ?_) #[true, true, false, false, true, true, false, false, false, true, true, false, false, true, true, false, false, false, false, true, false, false, false, false, false, false, false, false, false] rfl rfl (any_of HT_.out (by kernel_rfl)) (fun _ _ _ h => h) (Or.inl ⟨by rfl, ?_⟩) ?_ ?_
                                    rotate_left
                                    · intro w'
                                      go_simp
                                      with_reducible rfl
                                    rotate_left
                                    · simp only [Act.put, List.setIfInBounds_toArray, List.set_cons_zero, List.set_cons_succ, i64_w, i32_w]
                                      rfl
                                    refine pure_ (i := 20) (N := some 75) (v := ?_) (a' := ?_) #[true, true, false, false, true, true, false, false, false, true, true, false, false, true, true, false, false, false, false, true, true, false, false, false, false, false, false, false, false] rfl rfl (any_of HT_.out (by kernel_rfl)) (fun _ _ _ h => h) (Or.inl ⟨by rfl, ?_⟩) ?_ ?_
                                    rotate_left
                                    · intro w'
                                      go_simp
                                      with_reducible rfl
                                    rotate_left
                                    · simp only [Act.put, List.setIfInBounds_toArray, List.set_cons_zero, List.set_cons_succ, i64_w, i32_w]
                                      rfl
                                    refine one_ (i := 2) (N := some 57) #[true, true, true, false, true, true, false, false, false, true, true, false, false, true, true, false, false, false, false, true, true, false, false, false, false, false, false, false, false] rfl rfl (one_of HT_.out (by kernel_rfl)) (by decide) (fun K hK => ?_)
                                    refine goesV_ Tryd.func21 (by kernel_rfl) rfl #[.int .u8 a0] (by rfl) rfl rfl rfl (by (try simp only [List.map_toArray, List.map_cons, List.map_nil]); first | done | rfl | (simp only [List.length_drop, List.length_take]; rfl)) ?_
                                    with_reducible refine (bastionlaw07_AddrBytes_1.calls a0 t296 _ A18.out).mono ?_
                                    rintro e w' ⟨rfl, ⟨nd, rfl⟩⟩
                                    refine ⟨_, rfl, ?_⟩
                                    refine hK.out _ _ trivial (fun hHeld => ?_)
                                    clear hK K
                                    refine norm_ (a' := ?_) ?_ ?_
                                    rotate_left
                                    · show Act.put _ (some 57) _ = _
                                      simp only [Act.put, List.setIfInBounds_toArray, List.set_cons_zero, List.set_cons_succ, i64_w, i32_w]
                                      rfl
                                    refine pure_ (i := 3) (N := some 58) (v := ?_) (a' := ?_) #[true, true, true, true, true, true, false, false, false, true, true, false, false, true, true, false, false, false, false, true, true, false, false, false, false, false, false, false, false] rfl rfl (any_of HT_.out (by kernel_rfl)) (fun _ _ _ h => h) (Or.inl ⟨by rfl, ?_⟩) ?_ ?_
                                    rotate_left
                                    · intro w'
                                      go_simp
                                      with_reducible rfl
                                    rotate_left
                                    · simp only [Act.put, List.setIfInBounds_toArray, List.set_cons_zero, List.set_cons_succ, i64_w, i32_w]
                                      rfl
                                    refine one_ (i := 6) (N := some 61) #[true, true, true, true, true, true, true, false, false, true, true, false, false, true, true, false, false, false, false, true, true, false, false, false, false, false, false, false, false] rfl rfl (one_of HT_.out (by kernel_rfl)) (by decide) (fun K hK => ?_)
                                    refine goesV_ Tryd.func22 (by kernel_rfl) rfl #[.int .u8 a1] (by rfl) rfl rfl rfl (by (try simp only [List.map_toArray, List.map_cons, List.map_nil]); first | done | rfl | (simp only [List.length_drop, List.length_take]; rfl)) ?_
                                    with_reducible refine (bastionlaw07_AddrBytes_2.calls a1 t297 _ A20.out).mono ?_
                                    rintro e w' ⟨rfl, ⟨nd, rfl⟩⟩
                                    refine ⟨_, rfl, ?_⟩
                                    refine hK.out _ _ trivial (fun hHeld => ?_)
                                    clear hK K
                                    refine norm_ (a' := ?_) ?_ ?_
                                    rotate_left
                                    · show Act.put _ (some 61) _ = _
                                      simp only [Act.put, List.setIfInBounds_toArray, List.set_cons_zero, List.set_cons_succ, i64_w, i32_w]
                                      rfl
                                    refine pure_ (i := 7) (N := some 62) (v := ?_) (a' := ?_) #[true, true, true, true, true, true, true, true, false, true, true, false, false, true, true, false, false, false, false, true, true, false, false, false, false, false, false, false, false] rfl rfl (any_of HT_.out (by kernel_rfl)) (fun _ _ _ h => h) (Or.inl ⟨by rfl, ?_⟩) ?_ ?_
                                    rotate_left
                                    · intro w'
                                      go_simp
                                      with_reducible rfl
                                    rotate_left
                                    · simp only [Act.put, List.setIfInBounds_toArray, List.set_cons_zero, List.set_cons_succ, i64_w, i32_w]
                                      rfl
                                    refine pure_ (i := 8) (N := some 63) (v := ?_) (a' := ?_) #[true, true, true, true, true, true, true, true, true, true, true, false, false, true, true, false, false, false, false, true, true, false, false, false, false, false, false, false, false] rfl rfl (any_of HT_.out (by kernel_rfl)) (fun _ _ _ h => h) (Or.inl ⟨by rfl, ?_⟩) ?_ ?_
                                    rotate_left
                                    · intro w'
                                      go_simp
                                      with_reducible rfl
                                    rotate_left
                                    · simp only [Act.put, List.setIfInBounds_toArray, List.set_cons_zero, List.set_cons_succ, i64_w, i32_w]
                                      rfl
                                    refine one_ (i := 11) (N := some 66) #[true, true, true, true, true, true, true, true, true, true, true, true, false, true, true, false, false, false, false, true, true, false, false, false, false, false, false, false, false] rfl rfl (one_of HT_.out (by kernel_rfl)) (by decide) (fun K hK => ?_)
                                    refine goesV_ Tryd.func21 (by kernel_rfl) rfl #[.int .u8 a2] (by rfl) rfl rfl rfl (by (try simp only [List.map_toArray, List.map_cons, List.map_nil]); first | done | rfl | (simp only [List.length_drop, List.length_take]; rfl)) ?_
                                    with_reducible refine (bastionlaw07_AddrBytes_1.calls a2 t298 _ A23.out).mono ?_
                                    rintro e w' ⟨rfl, ⟨nd, rfl⟩⟩
                                    refine ⟨_, rfl, ?_⟩
                                    refine hK.out _ _ trivial (fun hHeld => ?_)
                                    clear hK K
                                    refine norm_ (a' := ?_) ?_ ?_
                                    rotate_left
                                    · show Act.put _ (some 66) _ = _
                                      simp only [Act.put, List.setIfInBounds_toArray, List.set_cons_zero, List.set_cons_succ, i64_w, i32_w]
                                      rfl
                                    refine pure_ (i := 12) (N := some 67) (v := ?_) (a' := ?_) #[true, true, true, true, true, true, true, true, true, true, true, true, true, true, true, false, false, false, false, true, true, false, false, false, false, false, false, false, false] rfl rfl (any_of HT_.out (by kernel_rfl)) (fun _ _ _ h => h) (Or.inl ⟨by rfl, ?_⟩) ?_ ?_
                                    rotate_left
                                    · intro w'
                                      go_simp
                                      with_reducible rfl
                                    rotate_left
                                    · simp only [Act.put, List.setIfInBounds_toArray, List.set_cons_zero, List.set_cons_succ, i64_w, i32_w]
                                      rfl
                                    refine one_ (i := 15) (N := some 70) #[true, true, true, true, true, true, true, true, true, true, true, true, true, true, true, true, false, false, false, true, true, false, false, false, false, false, false, false, false] rfl rfl (one_of HT_.out (by kernel_rfl)) (by decide) (fun K hK => ?_)
                                    refine goesV_ Tryd.func22 (by kernel_rfl) rfl #[.int .u8 a3] (by rfl) rfl rfl rfl (by (try simp only [List.map_toArray, List.map_cons, List.map_nil]); first | done | rfl | (simp only [List.length_drop, List.length_take]; rfl)) ?_
                                    with_reducible refine (bastionlaw07_AddrBytes_2.calls a3 t299 _ A25.out).mono ?_
                                    rintro e w' ⟨rfl, ⟨nd, rfl⟩⟩
                                    refine ⟨_, rfl, ?_⟩
                                    refine hK.out _ _ trivial (fun hHeld => ?_)
                                    clear hK K
                                    refine norm_ (a' := ?_) ?_ ?_
                                    rotate_left
                                    · show Act.put _ (some 70) _ = _
                                      simp only [Act.put, List.setIfInBounds_toArray, List.set_cons_zero, List.set_cons_succ, i64_w, i32_w]
                                      rfl
                                    refine pure_ (i := 16) (N := some 71) (v := ?_) (a' := ?_) #[true, true, true, true, true, true, true, true, true, true, true, true, true, true, true, true, true, false, false, true, true, false, false, false, false, false, false, false, false] rfl rfl (any_of HT_.out (by kernel_rfl)) (fun _ _ _ h => h) (Or.inl ⟨by rfl, ?_⟩) ?_ ?_
                                    rotate_left
                                    · intro w'
                                      go_simp
                                      with_reducible rfl
                                    rotate_left
                                    · simp only [Act.put, List.setIfInBounds_toArray, List.set_cons_zero, List.set_cons_succ, i64_w, i32_w]
                                      rfl
                                    refine pure_ (i := 17) (N := some 72) (v := ?_) (a' := ?_) #[true, true, true, true, true, true, true, true, true, true, true, true, true, true, true, true, true, true, false, true, true, false, false, false, false, false, false, false, false] rfl rfl (any_of HT_.out (by kernel_rfl)) (fun _ _ _ h => h) (Or.inl ⟨by rfl, ?_⟩) ?_ ?_
                                    rotate_left
                                    · intro w'
                                      go_simp
                                      with_reducible rfl
                                    rotate_left
                                    · simp only [Act.put, List.setIfInBounds_toArray, List.set_cons_zero, List.set_cons_succ, i64_w, i32_w]
                                      rfl
                                    refine pure_ (i := 18) (N := some 73) (v := ?_) (a' := ?_) #[true, true, true, true, true, true, true, true, true, true, true, true, true, true, true, true, true, true, true, true, true, false, false, false, false, false, false, false, false] rfl rfl (any_of HT_.out (by kernel_rfl)) (fun _ _ _ h => h) (Or.inl ⟨by rfl, ?_⟩) ?_ ?_
                                    rotate_left
                                    · intro w'
                                      go_simp
                                      with_reducible rfl
                                    rotate_left
                                    · simp only [Act.put, List.setIfInBounds_toArray, List.set_cons_zero, List.set_cons_succ, i64_w, i32_w]
                                      rfl
                                    refine one_ (i := 21) (N := some 76) #[true, true, true, true, true, true, true, true, true, true, true, true, true, true, true, true, true, true, true, true, true, true, false, false, false, false, false, false, false] rfl rfl (one_of HT_.out (by kernel_rfl)) (by decide) (fun K hK => ?_)
                                    refine goesV_ Tryd.func21 (by kernel_rfl) rfl #[.int .u8 a3] (by rfl) rfl rfl rfl (by (try simp only [List.map_toArray, List.map_cons, List.map_nil]); first | done | rfl | (simp only [List.length_drop, List.length_take]; rfl)) ?_
                                    with_reducible refine (bastionlaw07_AddrBytes_1.calls a3 t306 _ A30.out).mono ?_
                                    rintro e w' ⟨rfl, ⟨nd, rfl⟩⟩
                                    refine ⟨_, rfl, ?_⟩
                                    refine hK.out _ _ trivial (fun hHeld => ?_)
                                    clear hK K
                                    refine norm_ (a' := ?_) ?_ ?_
                                    rotate_left
                                    · show Act.put _ (some 76) _ = _
                                      simp only [Act.put, List.setIfInBounds_toArray, List.set_cons_zero, List.set_cons_succ, i64_w, i32_w]
                                      rfl
                                    refine pure_ (i := 22) (N := some 77) (v := ?_) (a' := ?_) #[true, true, true, true, true, true, true, true, true, true, true, true, true, true, true, true, true, true, true, true, true, true, true, false, false, false, false, false, false] rfl rfl (any_of HT_.out (by kernel_rfl)) (fun _ _ _ h => h) (Or.inl ⟨by rfl, ?_⟩) ?_ ?_
                                    rotate_left
                                    · intro w'
                                      go_simp
                                      with_reducible rfl
                                    rotate_left
                                    · simp only [Act.put, List.setIfInBounds_toArray, List.set_cons_zero, List.set_cons_succ, i64_w, i32_w]
                                      rfl
                                    refine one_ (i := 23) (N := some 78) #[true, true, true, true, true, true, true, true, true, true, true, true, true, true, true, true, true, true, true, true, true, true, true, true, false, false, false, false, false] rfl rfl (one_of HT_.out (by kernel_rfl)) (by decide) (fun K hK => ?_)
                                    refine goes_ Tryd.func10 (by kernel_rfl) rfl #[.string (((((((t296 ++ (⟨#[46]⟩ : ByteArray)) ++ t297) ++ (⟨#[46]⟩ : ByteArray)) ++ t298)) ++ (⟨#[46]⟩ : ByteArray)) ++ t306)] (by rfl) rfl rfl (by (try simp only [List.map_toArray, List.map_cons, List.map_nil]); first | done | rfl | (simp only [List.length_drop, List.length_take]; rfl)) ?_
                                    with_reducible refine (addr_V4.calls (((((((t296 ++ (⟨#[46]⟩ : ByteArray)) ++ t297) ++ (⟨#[46]⟩ : ByteArray)) ++ t298)) ++ (⟨#[46]⟩ : ByteArray)) ++ t306) t307 t308 _ ?side1 A32.out).mono ?_
                                    (case side1 => exact UTabs.below HTB.out (by repeat (first | (with_reducible first | exact HB.out | apply below_alloc | apply pw_below_drewN | apply below_drew1) | exact HB.out)))
                                    rintro e w51 ⟨rfl, hb⟩
                                    refine ⟨_, rfl, ?_⟩
                                    have n0_ := Aside0.mk (below_step (by repeat (first | (with_reducible first | exact HB.out | apply below_alloc | apply pw_below_drewN | apply below_drew1) | exact HB.out)) hb)
                                    clear HB
                                    have HB := n0_
                                    clear n0_
                                    (try clear hb)
                                    (try clear hb2)
                                    (try clear hk)
                                    (try clear hi)
                                    refine hK.out _ _ trivial (fun hHeld => ?_)
                                    clear hK K
                                    refine norm_ (a' := ?_) ?_ ?_
                                    rotate_left
                                    · show Act.put _ (some 78) _ = _
                                      simp only [Act.put, List.setIfInBounds_toArray, List.set_cons_zero, List.set_cons_succ, i64_w, i32_w]
                                      rfl
                                    refine pure_ (i := 24) (N := some 54) (v := ?_) (a' := ?_) #[true, true, true, true, true, true, true, true, true, true, true, true, true, true, true, true, true, true, true, true, true, true, true, true, true, false, false, false, false] rfl rfl (any_of HT_.out (by kernel_rfl)) (fun _ _ _ h => h) (Or.inl ⟨by rfl, ?_⟩) ?_ ?_
                                    rotate_left
                                    · intro w'
                                      go_simp
                                      with_reducible rfl
                                    rotate_left
                                    · simp only [Act.put, List.setIfInBounds_toArray, List.set_cons_zero, List.set_cons_succ, i64_w, i32_w]
                                      rfl
                                    refine pure_ (i := 25) (N := some 79) (v := ?_) (a' := ?_) #[true, true, true, true, true, true, true, true, true, true, true, true, true, true, true, true, true, true, true, true, true, true, true, true, true, true, false, false, false] rfl rfl (any_of HT_.out (by kernel_rfl)) (fun _ _ _ h => h) (Or.inl ⟨by rfl, ?_⟩) ?_ ?_
                                    rotate_left
                                    · intro w'
                                      go_simp
                                      with_reducible rfl
                                    rotate_left
                                    · simp only [Act.put, List.setIfInBounds_toArray, List.set_cons_zero, List.set_cons_succ, i64_w, i32_w]
                                      rfl
                                    refine pure_ (i := 26) (N := some 80) (v := ?_) (a' := ?_) #[true, true, true, true, true, true, true, true, true, true, true, true, true, true, true, true, true, true, true, true, true, true, true, true, true, true, true, false, false] rfl rfl (any_of HT_.out (by kernel_rfl)) (fun _ _ _ h => h) (Or.inl ⟨by rfl, ?_⟩) ?_ ?_
                                    rotate_left
                                    · intro w'
                                      go_simp
                                      with_reducible rfl
                                    rotate_left
                                    · simp only [Act.put, List.setIfInBounds_toArray, List.set_cons_zero, List.set_cons_succ, i64_w, i32_w]
                                      rfl
                                    refine pure_ (i := 27) (N := some 14) (v := ?_) (a' := ?_) #[true, true, true, true, true, true, true, true, true, true, true, true, true, true, true, true, true, true, true, true, true, true, true, true, true, true, true, true, false] rfl rfl (any_of HT_.out (by kernel_rfl)) (fun _ _ _ h => h) (Or.inl ⟨by rfl, ?_⟩) ?_ ?_
                                    rotate_left
                                    · intro w'
                                      go_simp
                                      with_reducible rfl
                                    rotate_left
                                    · simp only [Act.put, List.setIfInBounds_toArray, List.set_cons_zero, List.set_cons_succ, i64_w, i32_w]
                                      rfl
                                    refine pure_ (i := 28) (N := some 15) (v := ?_) (a' := ?_) #[true, true, true, true, true, true, true, true, true, true, true, true, true, true, true, true, true, true, true, true, true, true, true, true, true, true, true, true, true] rfl rfl (any_of HT_.out (by kernel_rfl)) (fun _ _ _ h => h) (Or.inl ⟨by rfl, ?_⟩) ?_ ?_
                                    rotate_left
                                    · intro w'
                                      go_simp
                                      with_reducible rfl
                                    rotate_left
                                    · simp only [Act.put, List.setIfInBounds_toArray, List.set_cons_zero, List.set_cons_succ, i64_w, i32_w]
                                      rfl
                                    refine done_ (done_of HT_.out (by kernel_rfl)) ?_
                                    try go_wp2
                                    go_ret
                                    exact ⟨by first | rfl | (simp [errW_none, errW_some] <;> rfl) | (simp [*, errW_none, errW_some] <;> rfl), by repeat (first | (with_reducible first | exact HB.out | apply below_alloc | apply pw_below_drewN | apply below_drew1) | exact HB.out)⟩
                                · rw [if_neg c31] at H
                                  exact absurd H (by simp)
                              · rw [if_neg c29] at H
                                exact absurd H (by simp)
                            · rw [if_neg c28] at H
                              exact absurd H (by simp)
                          · rw [if_neg c27] at H
                            exact absurd H (by simp)
                        · rw [if_neg c26] at H
                          exact absurd H (by simp)
                      · exact absurd (by first | exact of_eq_true c13b0 | exact of_decide_eq_true c13b0 | exact beq_iff_eq.mp c13b0 | assumption) c24
                    · exact absurd (by first | exact of_eq_true c11b0 | exact of_decide_eq_true c11b0 | exact beq_iff_eq.mp c11b0 | assumption) c22
                  · exact absurd (by first | exact of_eq_true c10b0 | exact of_decide_eq_true c10b0 | exact beq_iff_eq.mp c10b0 | assumption) c21
                · exact absurd (by first | exact of_eq_true c8b0 | exact of_decide_eq_true c8b0 | exact beq_iff_eq.mp c8b0 | assumption) c19
              · rw [if_neg c16] at H
                exact absurd H (by simp)
            · rw [if_neg c14] at H
              exact absurd H (by simp)
          · rw [if_neg c13] at H
            exact absurd H (by simp)
        · rw [if_neg c11] at H
          exact absurd H (by simp)
      · rw [if_neg c10] at H
        exact absurd H (by simp)
    · rw [if_neg c8] at H
      exact absurd H (by simp)
  · replace c6 := Bool.eq_false_iff.mpr c6
    subst c6
    have H1 : (some false) = some r := by rw [if_neg (show ¬ (false = true) by decide)] at H; exact H
    clear H
    have H := H1
    clear H1
    obtain rfl := Option.some.inj H
    go_enter Tryd.func8, Tryd.ntmps8
    go_wp2_with (first | ((with_reducible refine gate_callee (f := 14) rfl ?_); refine goesL_ (some 16) rfl rfl Tryd.func14 (by kernel_rfl) rfl #[] rfl (by (try simp only [List.map_toArray, List.map_cons, List.map_nil]); first | done | rfl | (simp only [List.length_drop, List.length_take]; rfl)) ?_; (with_reducible refine (bastionlaw07_lives.calls k  false _ ?side1 A5.out).mono ?_); (case side1 => exact UTabs.below HTB.out (by repeat (first | (with_reducible first | exact HB.out | apply below_alloc | apply pw_below_drewN | apply below_drew1) | exact HB.out))); rintro e w52 ⟨rfl, hb⟩; refine ⟨_, rfl, ?_⟩; have n0_ := Aside0.mk (below_step (by repeat (first | (with_reducible first | exact HB.out | apply below_alloc | apply pw_below_drewN | apply below_drew1) | exact HB.out)) hb); clear HB; have HB := n0_; clear n0_; (try clear hb); (try clear hb2); (try clear hk); (try clear hi)))
    go_ret
    exact ⟨by first | rfl | (simp [errW_none, errW_some] <;> rfl) | (simp [*, errW_none, errW_some] <;> rfl), by repeat (first | (with_reducible first | exact HB.out | apply below_alloc | apply pw_below_drewN | apply below_drew1) | exact HB.out)⟩
end Go.Proofs.YtkabhnbjjnjdhaaDoor.Q
