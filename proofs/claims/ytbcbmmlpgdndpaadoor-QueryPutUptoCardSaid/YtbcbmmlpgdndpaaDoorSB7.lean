/- Functions of the given program as plain Lean functions, each with the proof that the machine answers as it does; laid by a program of mine over the kit print. -/
/- The laws QueryTexts, QueryBack, QueryJoins, plain. -/
import Derived.Test.YtbcbmmlpgdndpaaDoorSQbase
import Derived.Test.YtbcbmmlpgdndpaaDoorSQParse
import Derived.Test.YtbcbmmlpgdndpaaDoorSQPrint
import Derived.Test.YtbcbmmlpgdndpaaDoorSQbastionlaw112
import Derived.Test.YtbcbmmlpgdndpaaDoorSQbastionref110
import Derived.Test.YtbcbmmlpgdndpaaDoorSB6
section
set_option linter.unusedSimpArgs false
set_option linter.unusedVariables false
namespace Go.Proofs.YtbcbmmlpgdndpaaDoor.Ql
variable {σ κ : Type} [DecidableEq κ] (key : σ → κ) (n : κ)
def has (x : σ) : Bool := decide (key x = n)
def lack (x : σ) : Bool := decide (key x ≠ n)
theorem lack_not (x : σ) : lack key n x = !has key n x := by simp [lack, has]
/-- what is put: once, where the first of the name stood -/
def putS (f : σ) : List σ → List σ
  | [] => [f]
  | x :: l => if key x = n then f :: l.filter (lack key n) else x :: putS f l
def dropS (l : List σ) : List σ := l.filter (lack key n)
/-- what is put is found -/
theorem find_putS (f : σ) (hf : key f = n) : ∀ l : List σ, (putS key n f l).find? (has key n) = some f
  | [] => by simp [putS, has, hf]
  | x :: l => by
    rw [putS]
    by_cases h : key x = n
    · rw [if_pos h]; simp [has, hf]
    · rw [if_neg h, List.find?_cons_of_neg (by simp [has, h]), find_putS f hf l]
theorem find_dropS (l : List σ) : (dropS key n l).find? (has key n) = none := by
  rw [List.find?_eq_none]
  intro x hx
  have := (List.mem_filter.1 hx).2
  rw [lack_not] at this
  simpa using this
/-- once -/
theorem count_putS (f : σ) (hf : key f = n) : ∀ l : List σ, ((putS key n f l).filter (has key n)).length = 1
  | [] => by simp [putS, has, hf]
  | x :: l => by
    rw [putS]
    by_cases h : key x = n
    · rw [if_pos h, List.filter_cons_of_pos (by simp [has, hf]), List.filter_filter, List.length_cons]
      have : (l.filter fun a => has key n a && lack key n a) = [] := by
        rw [List.filter_eq_nil_iff]; intro a _; rw [lack_not]; cases has key n a <;> decide
      rw [this]; rfl
    · rw [if_neg h, List.filter_cons_of_neg (by simp [has, h]), count_putS f hf l]
/-- what is put and dropped: all else stays -/
theorem drop_putS (f : σ) (hf : key f = n) : ∀ l : List σ, dropS key n (putS key n f l) = dropS key n l
  | [] => by simp [putS, dropS, lack, hf]
  | x :: l => by
    rw [putS]
    by_cases h : key x = n
    · rw [if_pos h, dropS, List.filter_cons_of_neg (by simp [lack, hf]), List.filter_filter, dropS, List.filter_cons_of_neg (by simp [lack, h])]
      simp
    · have ih := drop_putS f hf l
      unfold dropS at ih ⊢
      rw [if_neg h, List.filter_cons_of_pos (by simp [lack, h]), List.filter_cons_of_pos (by simp [lack, h]), ih]
theorem dropS_length (f : σ) (hf : key f = n) : ∀ l : List σ, (dropS key n l).length + 1 = (putS key n f l).length
  | [] => by simp [putS, dropS]
  | x :: l => by
    rw [putS]
    by_cases h : key x = n
    · rw [if_pos h, dropS, List.filter_cons_of_neg (by simp [lack, h]), List.length_cons]
    · have ih := dropS_length f hf l
      unfold dropS at ih ⊢
      rw [if_neg h, List.filter_cons_of_pos (by simp [lack, h]), List.length_cons, List.length_cons, ih]
end Go.Proofs.YtbcbmmlpgdndpaaDoor.Ql
end
section
namespace Go.Proofs.YtbcbmmlpgdndpaaDoor.Q
open Go.RowKit Go.Proofs.YtbcbmmlpgdndpaaDoorW.PrintWords Go.Proofs.YtbcbmmlpgdndpaaDoorW.PrintLast Go.Proofs.YtbcbmmlpgdndpaaDoorW.PrintMore
attribute [local go_sem] max2_int min2_int max_two min_two max_three min_three max_four min_four
set_option linter.unusedVariables false
set_option linter.unusedSimpArgs false
end Go.Proofs.YtbcbmmlpgdndpaaDoor.Q
end
section
set_option linter.unusedSimpArgs false
set_option linter.unusedVariables false
namespace Go.Proofs.YtbcbmmlpgdndpaaDoor.Q
open Go.RowKit Go.Proofs.YtbcbmmlpgdndpaaDoorW.PrintWords Go.Proofs.YtbcbmmlpgdndpaaDoorW.PrintLast Go.Proofs.YtbcbmmlpgdndpaaDoorW.PrintMore Go.Proofs.YtbcbmmlpgdndpaaDoor.P1 Go.Proofs.YtbcbmmlpgdndpaaDoor.R Go.Proofs.YtbcbmmlpgdndpaaDoor.Qu
theorem qlives_now : bastionlaw11_lives.f 100 = some true := by decide +kernel
theorem qlives_ev : Ev (fun k => bastionlaw11_lives.f k) true := Ev.of (fun k => bastionlaw11_lives.mono k) qlives_now
end Go.Proofs.YtbcbmmlpgdndpaaDoor.Q
end
