/- Functions of the given program as plain Lean functions, each with the proof that the machine answers as it does; laid by a program of mine over the kit print. -/
import Derived.Test.YtkabhnbjjnjdhaaDoorSQbase
import Derived.Test.YtkabhnbjjnjdhaaDoorSQbastionref07textA
namespace Go.Proofs.YtkabhnbjjnjdhaaDoor.Q
open Go.RowKit Go.Proofs.YtkabhnbjjnjdhaaDoorW.PrintWords Go.Proofs.YtkabhnbjjnjdhaaDoorW.PrintLast Go.Proofs.YtkabhnbjjnjdhaaDoorW.PrintMore
attribute [local go_sem] max2_int min2_int max_two min_two max_three min_three max_four min_four
set_option linter.unusedVariables false
set_option linter.unusedSimpArgs false
def bastionref07_TextV4.f (k : Nat) (a0 : Int) : Option (ByteArray) := (bastionref07_text.f k (IntKind.u64.wrap (Int.tdiv (IntKind.u64.wrap (a0)) 16777216)) 10).bind fun t159 => (if t159.size + 1 ≤ 9223372036854775807 then ((bastionref07_text.f k (Int.tmod (IntKind.u64.wrap (Int.tdiv (IntKind.u64.wrap (a0)) 65536)) 256) 10).bind fun t160 => (if (t159 ++ (⟨#[46]⟩ : ByteArray)).size + t160.size ≤ 9223372036854775807 then (if ((t159 ++ (⟨#[46]⟩ : ByteArray)) ++ t160).size + 1 ≤ 9223372036854775807 then ((bastionref07_text.f k (Int.tmod (IntKind.u64.wrap (Int.tdiv (IntKind.u64.wrap (a0)) 256)) 256) 10).bind fun t161 => (if (((t159 ++ (⟨#[46]⟩ : ByteArray)) ++ t160) ++ (⟨#[46]⟩ : ByteArray)).size + t161.size ≤ 9223372036854775807 then (if ((((t159 ++ (⟨#[46]⟩ : ByteArray)) ++ t160) ++ (⟨#[46]⟩ : ByteArray)) ++ t161).size + 1 ≤ 9223372036854775807 then ((bastionref07_text.f k (Int.tmod (IntKind.u64.wrap (a0)) 256) 10).bind fun t162 => (if (((((t159 ++ (⟨#[46]⟩ : ByteArray)) ++ t160) ++ (⟨#[46]⟩ : ByteArray)) ++ t161) ++ (⟨#[46]⟩ : ByteArray)).size + t162.size ≤ 9223372036854775807 then (some ((((((t159 ++ (⟨#[46]⟩ : ByteArray)) ++ t160) ++ (⟨#[46]⟩ : ByteArray)) ++ t161) ++ (⟨#[46]⟩ : ByteArray)) ++ t162)) else (none))) else (none)) else (none))) else (none)) else (none))) else (none))
set_option maxHeartbeats 8000000 in
set_option maxRecDepth 100000 in
theorem bastionref07_TextV4.calls (k : Nat) (a0 : Int) (r : ByteArray) (w : World) (h : bastionref07_TextV4.f k a0 = some r) :
    Calls Tryd.prog 18 #[.int .u32 a0] w fun e w' => e = .returned (.string r) ∧ Drawn0 w w' := by
  have H : ((bastionref07_text.f k (IntKind.u64.wrap (Int.tdiv (IntKind.u64.wrap (a0)) 16777216)) 10).bind fun t159 => (if t159.size + 1 ≤ 9223372036854775807 then ((bastionref07_text.f k (Int.tmod (IntKind.u64.wrap (Int.tdiv (IntKind.u64.wrap (a0)) 65536)) 256) 10).bind fun t160 => (if (t159 ++ (⟨#[46]⟩ : ByteArray)).size + t160.size ≤ 9223372036854775807 then (if ((t159 ++ (⟨#[46]⟩ : ByteArray)) ++ t160).size + 1 ≤ 9223372036854775807 then ((bastionref07_text.f k (Int.tmod (IntKind.u64.wrap (Int.tdiv (IntKind.u64.wrap (a0)) 256)) 256) 10).bind fun t161 => (if (((t159 ++ (⟨#[46]⟩ : ByteArray)) ++ t160) ++ (⟨#[46]⟩ : ByteArray)).size + t161.size ≤ 9223372036854775807 then (if ((((t159 ++ (⟨#[46]⟩ : ByteArray)) ++ t160) ++ (⟨#[46]⟩ : ByteArray)) ++ t161).size + 1 ≤ 9223372036854775807 then ((bastionref07_text.f k (Int.tmod (IntKind.u64.wrap (a0)) 256) 10).bind fun t162 => (if (((((t159 ++ (⟨#[46]⟩ : ByteArray)) ++ t160) ++ (⟨#[46]⟩ : ByteArray)) ++ t161) ++ (⟨#[46]⟩ : ByteArray)).size + t162.size ≤ 9223372036854775807 then (some ((((((t159 ++ (⟨#[46]⟩ : ByteArray)) ++ t160) ++ (⟨#[46]⟩ : ByteArray)) ++ t161) ++ (⟨#[46]⟩ : ByteArray)) ++ t162)) else (none))) else (none)) else (none))) else (none)) else (none))) else (none))) = some r := h
  clear h
  replace H := Option.bind_eq_some_iff.mp H
  obtain ⟨t159, A20, H⟩ := H
  replace H : (if t159.size + 1 ≤ 9223372036854775807 then ((bastionref07_text.f k (Int.tmod (IntKind.u64.wrap (Int.tdiv (IntKind.u64.wrap (a0)) 65536)) 256) 10).bind fun t160 => (if (t159 ++ (⟨#[46]⟩ : ByteArray)).size + t160.size ≤ 9223372036854775807 then (if ((t159 ++ (⟨#[46]⟩ : ByteArray)) ++ t160).size + 1 ≤ 9223372036854775807 then ((bastionref07_text.f k (Int.tmod (IntKind.u64.wrap (Int.tdiv (IntKind.u64.wrap (a0)) 256)) 256) 10).bind fun t161 => (if (((t159 ++ (⟨#[46]⟩ : ByteArray)) ++ t160) ++ (⟨#[46]⟩ : ByteArray)).size + t161.size ≤ 9223372036854775807 then (if ((((t159 ++ (⟨#[46]⟩ : ByteArray)) ++ t160) ++ (⟨#[46]⟩ : ByteArray)) ++ t161).size + 1 ≤ 9223372036854775807 then ((bastionref07_text.f k (Int.tmod (IntKind.u64.wrap (a0)) 256) 10).bind fun t162 => (if (((((t159 ++ (⟨#[46]⟩ : ByteArray)) ++ t160) ++ (⟨#[46]⟩ : ByteArray)) ++ t161) ++ (⟨#[46]⟩ : ByteArray)).size + t162.size ≤ 9223372036854775807 then (some ((((((t159 ++ (⟨#[46]⟩ : ByteArray)) ++ t160) ++ (⟨#[46]⟩ : ByteArray)) ++ t161) ++ (⟨#[46]⟩ : ByteArray)) ++ t162)) else (none))) else (none)) else (none))) else (none)) else (none))) else (none)) = some r := H
  have A2 := Aside0.mk A20
  clear A20
  by_cases c3 : t159.size + 1 ≤ 9223372036854775807
  · rw [if_pos c3] at H
    have c3b0 := eq_true c3
    have c3b1 : decide (t159.size + 1 ≤ 9223372036854775807) = true := decide_eq_true c3
    try have c3b2 : (9223372036854775807 < t159.size + 1) = False := eq_false (Nat.not_lt.2 c3)
    replace H := Option.bind_eq_some_iff.mp H
    obtain ⟨t160, A40, H⟩ := H
    replace H : (if (t159 ++ (⟨#[46]⟩ : ByteArray)).size + t160.size ≤ 9223372036854775807 then (if ((t159 ++ (⟨#[46]⟩ : ByteArray)) ++ t160).size + 1 ≤ 9223372036854775807 then ((bastionref07_text.f k (Int.tmod (IntKind.u64.wrap (Int.tdiv (IntKind.u64.wrap (a0)) 256)) 256) 10).bind fun t161 => (if (((t159 ++ (⟨#[46]⟩ : ByteArray)) ++ t160) ++ (⟨#[46]⟩ : ByteArray)).size + t161.size ≤ 9223372036854775807 then (if ((((t159 ++ (⟨#[46]⟩ : ByteArray)) ++ t160) ++ (⟨#[46]⟩ : ByteArray)) ++ t161).size + 1 ≤ 9223372036854775807 then ((bastionref07_text.f k (Int.tmod (IntKind.u64.wrap (a0)) 256) 10).bind fun t162 => (if (((((t159 ++ (⟨#[46]⟩ : ByteArray)) ++ t160) ++ (⟨#[46]⟩ : ByteArray)) ++ t161) ++ (⟨#[46]⟩ : ByteArray)).size + t162.size ≤ 9223372036854775807 then (some ((((((t159 ++ (⟨#[46]⟩ : ByteArray)) ++ t160) ++ (⟨#[46]⟩ : ByteArray)) ++ t161) ++ (⟨#[46]⟩ : ByteArray)) ++ t162)) else (none))) else (none)) else (none))) else (none)) else (none)) = some r := H
    have A4 := Aside0.mk A40
    clear A40
    by_cases c5 : (t159 ++ (⟨#[46]⟩ : ByteArray)).size + t160.size ≤ 9223372036854775807
    · rw [if_pos c5] at H
      have c5b0 := eq_true c5
      have c5b1 : decide ((t159 ++ (⟨#[46]⟩ : ByteArray)).size + t160.size ≤ 9223372036854775807) = true := decide_eq_true c5
      try have c5b2 : (9223372036854775807 < (t159 ++ (⟨#[46]⟩ : ByteArray)).size + t160.size) = False := eq_false (Nat.not_lt.2 c5)
      try (have c5b3 := c5b2; simp only [ByteArray.size_append, show (⟨#[46]⟩ : ByteArray).size = 1 from rfl] at c5b3)
      by_cases c6 : ((t159 ++ (⟨#[46]⟩ : ByteArray)) ++ t160).size + 1 ≤ 9223372036854775807
      · rw [if_pos c6] at H
        have c6b0 := eq_true c6
        have c6b1 : decide (((t159 ++ (⟨#[46]⟩ : ByteArray)) ++ t160).size + 1 ≤ 9223372036854775807) = true := decide_eq_true c6
        try have c6b2 : (9223372036854775807 < ((t159 ++ (⟨#[46]⟩ : ByteArray)) ++ t160).size + 1) = False := eq_false (Nat.not_lt.2 c6)
        try (have c6b3 := c6b2; simp only [ByteArray.size_append, show (⟨#[46]⟩ : ByteArray).size = 1 from rfl] at c6b3)
        replace H := Option.bind_eq_some_iff.mp H
        obtain ⟨t161, A70, H⟩ := H
        replace H : (if (((t159 ++ (⟨#[46]⟩ : ByteArray)) ++ t160) ++ (⟨#[46]⟩ : ByteArray)).size + t161.size ≤ 9223372036854775807 then (if ((((t159 ++ (⟨#[46]⟩ : ByteArray)) ++ t160) ++ (⟨#[46]⟩ : ByteArray)) ++ t161).size + 1 ≤ 9223372036854775807 then ((bastionref07_text.f k (Int.tmod (IntKind.u64.wrap (a0)) 256) 10).bind fun t162 => (if (((((t159 ++ (⟨#[46]⟩ : ByteArray)) ++ t160) ++ (⟨#[46]⟩ : ByteArray)) ++ t161) ++ (⟨#[46]⟩ : ByteArray)).size + t162.size ≤ 9223372036854775807 then (some ((((((t159 ++ (⟨#[46]⟩ : ByteArray)) ++ t160) ++ (⟨#[46]⟩ : ByteArray)) ++ t161) ++ (⟨#[46]⟩ : ByteArray)) ++ t162)) else (none))) else (none)) else (none)) = some r := H
        have A7 := Aside0.mk A70
        clear A70
        by_cases c8 : (((t159 ++ (⟨#[46]⟩ : ByteArray)) ++ t160) ++ (⟨#[46]⟩ : ByteArray)).size + t161.size ≤ 9223372036854775807
        · rw [if_pos c8] at H
          have c8b0 := eq_true c8
          have c8b1 : decide ((((t159 ++ (⟨#[46]⟩ : ByteArray)) ++ t160) ++ (⟨#[46]⟩ : ByteArray)).size + t161.size ≤ 9223372036854775807) = true := decide_eq_true c8
          try have c8b2 : (9223372036854775807 < (((t159 ++ (⟨#[46]⟩ : ByteArray)) ++ t160) ++ (⟨#[46]⟩ : ByteArray)).size + t161.size) = False := eq_false (Nat.not_lt.2 c8)
          try (have c8b3 := c8b2; simp only [ByteArray.size_append, show (⟨#[46]⟩ : ByteArray).size = 1 from rfl] at c8b3)
          by_cases c9 : ((((t159 ++ (⟨#[46]⟩ : ByteArray)) ++ t160) ++ (⟨#[46]⟩ : ByteArray)) ++ t161).size + 1 ≤ 9223372036854775807
          · rw [if_pos c9] at H
            have c9b0 := eq_true c9
            have c9b1 : decide (((((t159 ++ (⟨#[46]⟩ : ByteArray)) ++ t160) ++ (⟨#[46]⟩ : ByteArray)) ++ t161).size + 1 ≤ 9223372036854775807) = true := decide_eq_true c9
            try have c9b2 : (9223372036854775807 < ((((t159 ++ (⟨#[46]⟩ : ByteArray)) ++ t160) ++ (⟨#[46]⟩ : ByteArray)) ++ t161).size + 1) = False := eq_false (Nat.not_lt.2 c9)
            try (have c9b3 := c9b2; simp only [ByteArray.size_append, show (⟨#[46]⟩ : ByteArray).size = 1 from rfl] at c9b3)
            replace H := Option.bind_eq_some_iff.mp H
            obtain ⟨t162, A100, H⟩ := H
            replace H : (if (((((t159 ++ (⟨#[46]⟩ : ByteArray)) ++ t160) ++ (⟨#[46]⟩ : ByteArray)) ++ t161) ++ (⟨#[46]⟩ : ByteArray)).size + t162.size ≤ 9223372036854775807 then (some ((((((t159 ++ (⟨#[46]⟩ : ByteArray)) ++ t160) ++ (⟨#[46]⟩ : ByteArray)) ++ t161) ++ (⟨#[46]⟩ : ByteArray)) ++ t162)) else (none)) = some r := H
            have A10 := Aside0.mk A100
            clear A100
            by_cases c11 : (((((t159 ++ (⟨#[46]⟩ : ByteArray)) ++ t160) ++ (⟨#[46]⟩ : ByteArray)) ++ t161) ++ (⟨#[46]⟩ : ByteArray)).size + t162.size ≤ 9223372036854775807
            · rw [if_pos c11] at H
              have c11b0 := eq_true c11
              have c11b1 : decide ((((((t159 ++ (⟨#[46]⟩ : ByteArray)) ++ t160) ++ (⟨#[46]⟩ : ByteArray)) ++ t161) ++ (⟨#[46]⟩ : ByteArray)).size + t162.size ≤ 9223372036854775807) = true := decide_eq_true c11
              try have c11b2 : (9223372036854775807 < (((((t159 ++ (⟨#[46]⟩ : ByteArray)) ++ t160) ++ (⟨#[46]⟩ : ByteArray)) ++ t161) ++ (⟨#[46]⟩ : ByteArray)).size + t162.size) = False := eq_false (Nat.not_lt.2 c11)
              try (have c11b3 := c11b2; simp only [ByteArray.size_append, show (⟨#[46]⟩ : ByteArray).size = 1 from rfl] at c11b3)
              obtain rfl := Option.some.inj H
              go_enter Tryd.func18, Tryd.ntmps18
              go_wp2_with (first | ((with_reducible refine gate_callee (f := 34) rfl ?_); refine goesL_ (some 8) rfl rfl Tryd.func34 (by kernel_rfl) rfl #[.int .u64 (IntKind.u64.wrap (Int.tdiv (IntKind.u64.wrap (a0)) 16777216)), .int .u64 10] rfl (by (try simp only [List.map_toArray, List.map_cons, List.map_nil]); first | done | rfl | (simp only [List.length_drop, List.length_take]; rfl)) ?_; (with_reducible refine (bastionref07_text.calls k (IntKind.u64.wrap (Int.tdiv (IntKind.u64.wrap (a0)) 16777216)) 10 t159 _ A2.out).mono ?_); rintro e w' ⟨rfl, ⟨nd, rfl⟩⟩; refine ⟨_, rfl, ?_⟩) | ((with_reducible refine gate_callee (f := 34) rfl ?_); refine goesL_ (some 13) rfl rfl Tryd.func34 (by kernel_rfl) rfl #[.int .u64 (Int.tmod (IntKind.u64.wrap (Int.tdiv (IntKind.u64.wrap (a0)) 65536)) 256), .int .u64 10] rfl (by (try simp only [List.map_toArray, List.map_cons, List.map_nil]); first | done | rfl | (simp only [List.length_drop, List.length_take]; rfl)) ?_; (with_reducible refine (bastionref07_text.calls k (Int.tmod (IntKind.u64.wrap (Int.tdiv (IntKind.u64.wrap (a0)) 65536)) 256) 10 t160 _ A4.out).mono ?_); rintro e w' ⟨rfl, ⟨nd, rfl⟩⟩; refine ⟨_, rfl, ?_⟩) | ((with_reducible refine gate_callee (f := 34) rfl ?_); refine goesL_ (some 19) rfl rfl Tryd.func34 (by kernel_rfl) rfl #[.int .u64 (Int.tmod (IntKind.u64.wrap (Int.tdiv (IntKind.u64.wrap (a0)) 256)) 256), .int .u64 10] rfl (by (try simp only [List.map_toArray, List.map_cons, List.map_nil]); first | done | rfl | (simp only [List.length_drop, List.length_take]; rfl)) ?_; (with_reducible refine (bastionref07_text.calls k (Int.tmod (IntKind.u64.wrap (Int.tdiv (IntKind.u64.wrap (a0)) 256)) 256) 10 t161 _ A7.out).mono ?_); rintro e w' ⟨rfl, ⟨nd, rfl⟩⟩; refine ⟨_, rfl, ?_⟩) | ((with_reducible refine gate_callee (f := 34) rfl ?_); refine goesL_ (some 24) rfl rfl Tryd.func34 (by kernel_rfl) rfl #[.int .u64 (Int.tmod (IntKind.u64.wrap (a0)) 256), .int .u64 10] rfl (by (try simp only [List.map_toArray, List.map_cons, List.map_nil]); first | done | rfl | (simp only [List.length_drop, List.length_take]; rfl)) ?_; (with_reducible refine (bastionref07_text.calls k (Int.tmod (IntKind.u64.wrap (a0)) 256) 10 t162 _ A10.out).mono ?_); rintro e w' ⟨rfl, ⟨nd, rfl⟩⟩; refine ⟨_, rfl, ?_⟩))
              go_ret
              exact ⟨by first | rfl | (simp; done) | (simp [*]; done), by repeat (first | exact Drawn0.refl _ | apply Drawn0.step)⟩
            · rw [if_neg c11] at H
              exact absurd H (by simp)
          · rw [if_neg c9] at H
            exact absurd H (by simp)
        · rw [if_neg c8] at H
          exact absurd H (by simp)
      · rw [if_neg c6] at H
        exact absurd H (by simp)
    · rw [if_neg c5] at H
      exact absurd H (by simp)
  · rw [if_neg c3] at H
    exact absurd H (by simp)
end Go.Proofs.YtkabhnbjjnjdhaaDoor.Q
