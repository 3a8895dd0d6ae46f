/- addr.all: whether all bytes of a text are of one of some kinds; kinds are functions that are handed in. -/
import Derived.Test.YtkabhnbjjnjdhaaDoorSQbase
import Derived.Test.YtkabhnbjjnjdhaaDoorSQaddr0
import Derived.WalkKit
import Derived.Deep.LoopGhost
import Derived.Lib.Hide
import Derived.Laws.Strings3
import Derived.BigCall
import Derived.BigGuard
set_option linter.unusedSimpArgs false
set_option linter.unusedVariables false
namespace Go.Proofs.YtkabhnbjjnjdhaaDoor.Q
open Go.RowKit Go.Proofs.YtkabhnbjjnjdhaaDoorW.PrintWords Go.Proofs.YtkabhnbjjnjdhaaDoorW.PrintLast Go.Proofs.YtkabhnbjjnjdhaaDoorW.PrintMore
/-- a function on bytes that may be handed in, and what it answers -/
def okFn (g : Nat) (p : Int → Bool) : Prop := (∀ args w, (callFunc g args).run Tryd.prog w = .ok (.enter g args) w) ∧ ∀ (b : Int) (w : World), 0 ≤ b → b < 256 → Calls Tryd.prog g #[.int .u8 b] w fun e w' => e = .returned (.bool (p b)) ∧ Below w.heap.size w w'
def decB (b : Int) : Bool := decide (48 ≤ b) && decide (b ≤ 57)
def octB (b : Int) : Bool := decide (48 ≤ b) && decide (b ≤ 55)
def letB (b : Int) : Bool := decide (97 ≤ Go.bits .or .u8 b 32) && decide (Go.bits .or .u8 b 32 ≤ 102)
theorem ok_dec : okFn 31 decB := ⟨enters_of Tryd.func31 (by kernel_rfl) rfl, fun b w h0 h1 => by
  have hf : addr_decimal.f b = some (decB b) := by
    unfold addr_decimal.f decB
    by_cases h : b ≥ 48
    · rw [if_pos h, decide_eq_true (by omega : 48 ≤ b)]; rfl
    · rw [if_neg h, decide_eq_false (by omega : ¬ 48 ≤ b)]; rfl
  exact (addr_decimal.calls b _ w hf).mono fun e w' h => ⟨h.1, h.2.below⟩⟩
theorem ok_oct : okFn 39 octB := ⟨enters_of Tryd.func39 (by kernel_rfl) rfl, fun b w h0 h1 => by
  have hf : addr_octal.f b = some (octB b) := by
    unfold addr_octal.f octB
    by_cases h : b ≥ 48
    · rw [if_pos h, decide_eq_true (by omega : 48 ≤ b)]; rfl
    · rw [if_neg h, decide_eq_false (by omega : ¬ 48 ≤ b)]; rfl
  exact (addr_octal.calls b _ w hf).mono fun e w' h => ⟨h.1, h.2.below⟩⟩
theorem ok_let : okFn 38 letB := ⟨enters_of Tryd.func38 (by kernel_rfl) rfl, fun b w h0 h1 => by
  have hf : addr_letter.f b = some (letB b) := by
    unfold addr_letter.f letB
    by_cases h : (Go.bits .or .u8 b 32) ≥ 97
    · rw [if_pos h, decide_eq_true (by omega : 97 ≤ Go.bits .or .u8 b 32)]; rfl
    · rw [if_neg h, decide_eq_false (by omega : ¬ 97 ≤ Go.bits .or .u8 b 32)]; rfl
  exact (addr_letter.calls b _ w hf).mono fun e w' h => ⟨h.1, h.2.below⟩⟩
/-- the closure: what the function says of the byte at hand -/
theorem all1_calls (g : Nat) (p : Int → Bool) (hg : okFn g p) (s : ByteArray) (i : Nat) (hi : i < s.size) (bs bi : Nat) (w : World) (h1 : w.cell? ⟨bs, 0, none⟩ = some (.string s)) (h2 : w.cell? ⟨bi, 0, none⟩ = some (.int .i64 i)) :
    Calls Tryd.prog 46 #[.func (.func g) #[] #[], .pointer (some ⟨bs, 0, none⟩), .pointer (some ⟨bi, 0, none⟩)] w fun e w' => e = .returned (.bool (p (s.data[i]'hi).toNat)) ∧ Below w.heap.size w w' := by
  have eg := hg.1
  have hcall := hg.2 (s.data[i]'hi).toNat w (by omega) (by have := (s.data[i]'hi).toNat_lt; omega)
  have hiz : (i : Int) < (s.size : Int) := by omega
  have hb : s[i]'hi = s.data[i]'hi := rfl
  clear hg
  go_enter Tryd.func46, Tryd.ntmps46
  go_wp2_with fail
  refine hcall.mono ?_
  rintro e w' ⟨rfl, hb'⟩
  go_wp2
  go_ret
  exact ⟨rfl, hb'⟩
end Go.Proofs.YtkabhnbjjnjdhaaDoor.Q
