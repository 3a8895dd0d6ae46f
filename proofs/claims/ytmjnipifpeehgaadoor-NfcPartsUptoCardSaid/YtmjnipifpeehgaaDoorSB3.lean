/- Functions of the given program as plain Lean functions, each with the proof that the machine answers as it does; laid by a program of mine over the kit print. -/
/- slices.SortStableFunc of runes in a stretch of a block. -/
/- Functions of the given program as plain Lean functions, each with the proof that the machine answers as it does; laid by a program of mine over the kit print. -/
/- The order of lists of numbers, and the document's way to put one more into an ordered list, plain. -/
/- Runes between those of class nought, each stretch in stable order; the document's way, one more at a time: plain. -/
/- nfc.Ordered's stretches, plain: from a place on, up to the next rune of class nought. -/
/- tables.may as a test; tables.right, plain. -/
import Derived.Test.YtmjnipifpeehgaaDoorSQbase
import Derived.Test.YtmjnipifpeehgaaDoorSRsG
import Derived.Test.YtmjnipifpeehgaaDoorSStab
import Derived.Test.YtmjnipifpeehgaaDoorSQtables1
import Derived.Lib.BufferOwn
import Derived.Lib.HexFns2
import Derived.Deep.AppendLies
import Derived.Maps.AppendAt
section
namespace Go.Proofs.YtmjnipifpeehgaaDoor.Q
open Go.RowKit Go.Proofs.YtmjnipifpeehgaaDoorW.PrintWords Go.Proofs.YtmjnipifpeehgaaDoorW.PrintLast Go.Proofs.YtmjnipifpeehgaaDoorW.PrintMore
attribute [local go_sem] max2_int min2_int max_two min_two max_three min_three max_four min_four
set_option linter.unusedVariables false
set_option linter.unusedSimpArgs false
def nfc_syllable.f (a0 : Int) : Option (Int × Bool) := if (wrap32 (a0 - 44032)) ≥ 0 then (some (wrap32 (a0 - 44032), decide ((wrap32 (a0 - 44032)) < 11172))) else (some (wrap32 (a0 - 44032), false))
set_option maxHeartbeats 8000000 in
set_option maxRecDepth 100000 in
theorem nfc_syllable.calls (a0 : Int) (r1 : Int) (r2 : Bool) (w : World) (h : nfc_syllable.f a0 = some (r1, r2)) :
    Calls Tryd.prog 57 #[.int .i32 a0] w fun e w' => e = .returned (.tuple #[.int .i32 r1, .bool r2]) ∧ Drawn0 w w' := by
  have H : (if (wrap32 (a0 - 44032)) ≥ 0 then (some (wrap32 (a0 - 44032), decide ((wrap32 (a0 - 44032)) < 11172))) else (some (wrap32 (a0 - 44032), false))) = some (r1, r2) := h
  clear h
  by_cases c2 : (wrap32 (a0 - 44032)) ≥ 0
  · rw [if_pos c2] at H
    have c2b0 : decide (0 ≤ (wrap32 (a0 - 44032))) = true := decide_eq_true c2
    clear c2
    simp only [Option.some.injEq, Prod.mk.injEq] at H
    obtain ⟨rfl, rfl⟩ := H
    go_enter Tryd.func57, Tryd.ntmps57
    go_wp2
    go_ret2
    exact ⟨by first | rfl | (simp; done) | (simp [*]; done), by repeat (first | exact Drawn0.refl _ | apply Drawn0.step)⟩
  · rw [if_neg c2] at H
    have c2b0 : decide (0 ≤ (wrap32 (a0 - 44032))) = false := decide_eq_false c2
    clear c2
    simp only [Option.some.injEq, Prod.mk.injEq] at H
    obtain ⟨rfl, rfl⟩ := H
    go_enter Tryd.func57, Tryd.ntmps57
    go_wp2
    go_ret2
    exact ⟨by first | rfl | (simp; done) | (simp [*]; done), by repeat (first | exact Drawn0.refl _ | apply Drawn0.step)⟩
end Go.Proofs.YtmjnipifpeehgaaDoor.Q
end
section
set_option linter.unusedSimpArgs false
set_option linter.unusedVariables false
namespace Go.Proofs.YtmjnipifpeehgaaDoor.Q.I
open Go.RowKit Go.Proofs.YtmjnipifpeehgaaDoorW.PrintWords Go.Proofs.YtmjnipifpeehgaaDoorW.PrintLast Go.Proofs.YtmjnipifpeehgaaDoorW.PrintMore Go.Sort Go.Proofs.YtmjnipifpeehgaaDoor.St Go.Proofs.YtmjnipifpeehgaaDoor.Q
set_option maxHeartbeats 4000000 in
theorem sortStable_calls (base g o cap : Nat) (qz : Array Value) (hg : base ≤ g) (fq : Nat) (lb : Array Value) (c : Int → Int → Int) (eg : ∀ args w, (callFunc fq args).run Tryd.prog w = .ok (.enter fq args) w) (d0 : Array Int) (w : World) (hcmp : CmpF base w fq lb c)
    (hbw : base ≤ w.heap.size) (hR : RowA g o qz w d0) (hn : d0.size ≤ 1099511627776) :
    Calls Tryd.prog 22 #[.slice (some ⟨g, o, none⟩) d0.size cap, .func (.func fq) #[] lb] w fun e w' => e = .returned (.tuple #[]) ∧ RowA g o qz w' (stable (ltF c) d0.size d0) ∧ Below base w w' := by
  have hst := stable_calls base g o cap qz hg fq lb c eg d0 w hcmp hbw hR hn
  obtain ⟨N, hN⟩ : ∃ N, N = d0.size := ⟨_, rfl⟩
  rw [← hN] at hst hn ⊢
  clear hcmp hR hN
  go_enter Tryd.func22, Tryd.ntmps22
  go_wp2_with fail
  refine hst.mono ?_
  rintro e w1 ⟨rfl, hr, hb⟩
  have HR := Lib.hid hr
  have HB := Lib.hid hb
  clear hst hr hb
  go_wp2
  go_end0
  exact ⟨rfl, HR.out, HB.out⟩
end Go.Proofs.YtmjnipifpeehgaaDoor.Q.I
end
section
namespace Go.Proofs.YtmjnipifpeehgaaDoor.Q
open Go.RowKit Go.Proofs.YtmjnipifpeehgaaDoorW.PrintWords Go.Proofs.YtmjnipifpeehgaaDoorW.PrintLast Go.Proofs.YtmjnipifpeehgaaDoorW.PrintMore
attribute [local go_sem] max2_int min2_int max_two min_two max_three min_three max_four min_four
set_option linter.unusedVariables false
set_option linter.unusedSimpArgs false
def cmp_isNaN_uint8.f (a0 : Int) : Option (Bool) := some (a0 != a0)
set_option maxHeartbeats 8000000 in
set_option maxRecDepth 100000 in
theorem cmp_isNaN_uint8.calls (a0 : Int) (r : Bool) (w : World) (h : cmp_isNaN_uint8.f a0 = some r) :
    Calls Tryd.prog 37 #[.int .u8 a0] w fun e w' => e = .returned (.bool r) ∧ Drawn0 w w' := by
  have H : (some (a0 != a0)) = some r := h
  clear h
  obtain rfl := Option.some.inj H
  go_enter Tryd.func37, Tryd.ntmps37
  go_wp2
  go_ret
  exact ⟨by first | rfl | (simp; done) | (simp [*]; done), by repeat (first | exact Drawn0.refl _ | apply Drawn0.step)⟩
end Go.Proofs.YtmjnipifpeehgaaDoor.Q
end
section
set_option linter.unusedSimpArgs false
set_option linter.unusedVariables false
namespace Go.Proofs.YtmjnipifpeehgaaDoor.St
section
variable {α : Type} (key : α → List Int)
end
section
variable {α : Type} [Inhabited α] {lt : α → α → Bool}
end
end Go.Proofs.YtmjnipifpeehgaaDoor.St
end
section
set_option linter.unusedSimpArgs false
set_option linter.unusedVariables false
namespace Go.Proofs.YtmjnipifpeehgaaDoor.St
variable {α : Type} [Inhabited α] (cls : α → Nat)
/-- of a lower class -/
def cLt (x y : α) : Bool := decide (cls x < cls y)
omit [Inhabited α] in
theorem c_tot (x y : α) (h : leq (cLt cls) x y = false) : leq (cLt cls) y x = true := by
  unfold leq cLt at h ⊢
  have : cls y < cls x := by simpa using h
  simp; omega
omit [Inhabited α] in
theorem c_tr (x y z : α) (h1 : leq (cLt cls) x y = true) (h2 : leq (cLt cls) y z = true) : leq (cLt cls) x z = true := by
  unfold leq cLt at h1 h2 ⊢
  simp at h1 h2 ⊢
  omega
def segGo : List α → List α → List α
  | cur, [] => stab (leq (cLt cls)) cur
  | cur, x :: t => if cls x = 0 then stab (leq (cLt cls)) cur ++ x :: segGo [] t else segGo (cur ++ [x]) t
end Go.Proofs.YtmjnipifpeehgaaDoor.St
end
section
set_option linter.unusedSimpArgs false
set_option linter.unusedVariables false
set_option linter.unusedSectionVars false
namespace Go.Proofs.YtmjnipifpeehgaaDoor.St
variable {α : Type} [Inhabited α] (cls : α → Nat)
theorem segGo_span (x : α) (hx : cls x = 0) (rest : List α) : ∀ (pre cur : List α), (∀ y ∈ pre, cls y ≠ 0) → segGo cls cur (pre ++ x :: rest) = stab (leq (cLt cls)) (cur ++ pre) ++ x :: segGo cls [] rest
  | [], cur, _ => by
    rw [List.nil_append, List.append_nil, segGo, if_pos hx]
  | y :: p, cur, h => by
    rw [List.cons_append, segGo, if_neg (h y List.mem_cons_self), segGo_span x hx rest p (cur ++ [y]) (fun z hz => h z (List.mem_cons_of_mem _ hz)), List.append_assoc]
    rfl
theorem segGo_end : ∀ (pre cur : List α), (∀ y ∈ pre, cls y ≠ 0) → segGo cls cur pre = stab (leq (cLt cls)) (cur ++ pre)
  | [], cur, _ => by rw [List.append_nil, segGo]
  | y :: p, cur, h => by
    rw [segGo, if_neg (h y List.mem_cons_self), segGo_end p (cur ++ [y]) (fun z hz => h z (List.mem_cons_of_mem _ hz)), List.append_assoc]
    rfl
end Go.Proofs.YtmjnipifpeehgaaDoor.St
end
section
set_option linter.unusedSimpArgs false
set_option linter.unusedVariables false
namespace Go.Proofs.YtmjnipifpeehgaaDoor.Q
open Go.RowKit Go.Proofs.YtmjnipifpeehgaaDoorW.PrintWords Go.Proofs.YtmjnipifpeehgaaDoorW.PrintLast Go.Proofs.YtmjnipifpeehgaaDoorW.PrintMore
theorem encode_small (a : Int) : (Utf8.encode a).size ≤ 4 := by
  unfold Utf8.encode
  simp only
  repeat' split
  all_goals first | decide | exact Nat.le_of_ble_eq_true rfl
theorem may_total (a : Int) : ∃ b, tables_may.f a = some b := by
  unfold tables_may.f utf_Valid.f
  rw [if_pos (by have := encode_small a; omega), Option.bind_some]
  repeat' split
  all_goals exact ⟨_, rfl⟩
/-- a rune may be -/
def mayF (a : Int) : Bool := (tables_may.f a).getD false
theorem mayF_eq (a : Int) : tables_may.f a = some (mayF a) := by
  obtain ⟨b, h⟩ := may_total a
  unfold mayF
  rw [h]; rfl
theorem may_calls (a : Int) (w : World) (hT : UTabs w) : Calls Tryd.prog 45 #[.int .i32 a] w fun e w' => e = .returned (.bool (mayF a)) ∧ Below w.heap.size w w' :=
  tables_may.calls a _ w hT (mayF_eq a)
/-- from, to: right behind the last one, and each may be -/
def endsOk (last f t : Int) : Bool := !(decide (f > t)) && !(decide (f ≤ last)) && mayF f && mayF t && !(decide (f < 55296) && decide (t > 57343))
def rightG {α : Type} (fr te : α → Int) (q : α → Bool) : Int → List α → Bool
  | _, [] => true
  | last, x :: l => (endsOk last (fr x) (te x) && q x) && rightG fr te q (te x) l
end Go.Proofs.YtmjnipifpeehgaaDoor.Q
end
