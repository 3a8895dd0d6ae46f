/- Functions of the given program as plain Lean functions, each with the proof that the machine answers as it does; laid by a program of mine over the kit print. -/
import Derived.Test.YtkabhnbjjnjdhaaDoorSQbase
namespace Go.Proofs.YtkabhnbjjnjdhaaDoor.Q
open Go.RowKit Go.Proofs.YtkabhnbjjnjdhaaDoorW.PrintWords Go.Proofs.YtkabhnbjjnjdhaaDoorW.PrintLast Go.Proofs.YtkabhnbjjnjdhaaDoorW.PrintMore
attribute [local go_sem] max2_int min2_int max_two min_two max_three min_three max_four min_four
set_option linter.unusedVariables false
set_option linter.unusedSimpArgs false
def bastionlaw07_AddrBytes_2.f (a0 : Int) : Option (ByteArray) := if 0 ≤ ((Int.tdiv a0 64) % 256) then (if ((Int.tdiv a0 64) % 256) < 8 then (if 1 + (Utf8.encode (bt (⟨#[48, 49, 50, 51, 52, 53, 54, 55]⟩ : ByteArray) ((Int.tdiv a0 64) % 256)) : ByteArray).size ≤ 9223372036854775807 then (if 0 ≤ (((Int.tdiv a0 8) % 256) % 8) then (if (((Int.tdiv a0 8) % 256) % 8) < 8 then (if ((⟨#[48]⟩ : ByteArray) ++ (Utf8.encode (bt (⟨#[48, 49, 50, 51, 52, 53, 54, 55]⟩ : ByteArray) ((Int.tdiv a0 64) % 256)) : ByteArray)).size + (Utf8.encode (bt (⟨#[48, 49, 50, 51, 52, 53, 54, 55]⟩ : ByteArray) (((Int.tdiv a0 8) % 256) % 8)) : ByteArray).size ≤ 9223372036854775807 then (if 0 ≤ (Int.tmod a0 8) then (if (Int.tmod a0 8) < 8 then (if (((⟨#[48]⟩ : ByteArray) ++ (Utf8.encode (bt (⟨#[48, 49, 50, 51, 52, 53, 54, 55]⟩ : ByteArray) ((Int.tdiv a0 64) % 256)) : ByteArray)) ++ (Utf8.encode (bt (⟨#[48, 49, 50, 51, 52, 53, 54, 55]⟩ : ByteArray) (((Int.tdiv a0 8) % 256) % 8)) : ByteArray)).size + (Utf8.encode (bt (⟨#[48, 49, 50, 51, 52, 53, 54, 55]⟩ : ByteArray) (Int.tmod a0 8)) : ByteArray).size ≤ 9223372036854775807 then (some ((((⟨#[48]⟩ : ByteArray) ++ (Utf8.encode (bt (⟨#[48, 49, 50, 51, 52, 53, 54, 55]⟩ : ByteArray) ((Int.tdiv a0 64) % 256)) : ByteArray)) ++ (Utf8.encode (bt (⟨#[48, 49, 50, 51, 52, 53, 54, 55]⟩ : ByteArray) (((Int.tdiv a0 8) % 256) % 8)) : ByteArray)) ++ (Utf8.encode (bt (⟨#[48, 49, 50, 51, 52, 53, 54, 55]⟩ : ByteArray) (Int.tmod a0 8)) : ByteArray))) else (none)) else (none)) else (none)) else (none)) else (none)) else (none)) else (none)) else (none)) else (none)
set_option maxHeartbeats 8000000 in
set_option maxRecDepth 100000 in
theorem bastionlaw07_AddrBytes_2.calls (a0 : Int) (r : ByteArray) (w : World) (h : bastionlaw07_AddrBytes_2.f a0 = some r) :
    Calls Tryd.prog 22 #[.int .u8 a0] w fun e w' => e = .returned (.string r) ∧ Drawn0 w w' := by
  have H : (if 0 ≤ ((Int.tdiv a0 64) % 256) then (if ((Int.tdiv a0 64) % 256) < 8 then (if 1 + (Utf8.encode (bt (⟨#[48, 49, 50, 51, 52, 53, 54, 55]⟩ : ByteArray) ((Int.tdiv a0 64) % 256)) : ByteArray).size ≤ 9223372036854775807 then (if 0 ≤ (((Int.tdiv a0 8) % 256) % 8) then (if (((Int.tdiv a0 8) % 256) % 8) < 8 then (if ((⟨#[48]⟩ : ByteArray) ++ (Utf8.encode (bt (⟨#[48, 49, 50, 51, 52, 53, 54, 55]⟩ : ByteArray) ((Int.tdiv a0 64) % 256)) : ByteArray)).size + (Utf8.encode (bt (⟨#[48, 49, 50, 51, 52, 53, 54, 55]⟩ : ByteArray) (((Int.tdiv a0 8) % 256) % 8)) : ByteArray).size ≤ 9223372036854775807 then (if 0 ≤ (Int.tmod a0 8) then (if (Int.tmod a0 8) < 8 then (if (((⟨#[48]⟩ : ByteArray) ++ (Utf8.encode (bt (⟨#[48, 49, 50, 51, 52, 53, 54, 55]⟩ : ByteArray) ((Int.tdiv a0 64) % 256)) : ByteArray)) ++ (Utf8.encode (bt (⟨#[48, 49, 50, 51, 52, 53, 54, 55]⟩ : ByteArray) (((Int.tdiv a0 8) % 256) % 8)) : ByteArray)).size + (Utf8.encode (bt (⟨#[48, 49, 50, 51, 52, 53, 54, 55]⟩ : ByteArray) (Int.tmod a0 8)) : ByteArray).size ≤ 9223372036854775807 then (some ((((⟨#[48]⟩ : ByteArray) ++ (Utf8.encode (bt (⟨#[48, 49, 50, 51, 52, 53, 54, 55]⟩ : ByteArray) ((Int.tdiv a0 64) % 256)) : ByteArray)) ++ (Utf8.encode (bt (⟨#[48, 49, 50, 51, 52, 53, 54, 55]⟩ : ByteArray) (((Int.tdiv a0 8) % 256) % 8)) : ByteArray)) ++ (Utf8.encode (bt (⟨#[48, 49, 50, 51, 52, 53, 54, 55]⟩ : ByteArray) (Int.tmod a0 8)) : ByteArray))) else (none)) else (none)) else (none)) else (none)) else (none)) else (none)) else (none)) else (none)) else (none)) = some r := h
  clear h
  obtain ⟨ji2, hji2⟩ : ∃ j_ : Int, ((Int.tdiv a0 64) % 256) = j_ := ⟨_, rfl⟩
  replace H : (if 0 ≤ (ji2) then (if (ji2) < 8 then (if 1 + (Utf8.encode (bt (⟨#[48, 49, 50, 51, 52, 53, 54, 55]⟩ : ByteArray) (ji2)) : ByteArray).size ≤ 9223372036854775807 then (if 0 ≤ (((Int.tdiv a0 8) % 256) % 8) then (if (((Int.tdiv a0 8) % 256) % 8) < 8 then (if ((⟨#[48]⟩ : ByteArray) ++ (Utf8.encode (bt (⟨#[48, 49, 50, 51, 52, 53, 54, 55]⟩ : ByteArray) (ji2)) : ByteArray)).size + (Utf8.encode (bt (⟨#[48, 49, 50, 51, 52, 53, 54, 55]⟩ : ByteArray) (((Int.tdiv a0 8) % 256) % 8)) : ByteArray).size ≤ 9223372036854775807 then (if 0 ≤ (Int.tmod a0 8) then (if (Int.tmod a0 8) < 8 then (if (((⟨#[48]⟩ : ByteArray) ++ (Utf8.encode (bt (⟨#[48, 49, 50, 51, 52, 53, 54, 55]⟩ : ByteArray) (ji2)) : ByteArray)) ++ (Utf8.encode (bt (⟨#[48, 49, 50, 51, 52, 53, 54, 55]⟩ : ByteArray) (((Int.tdiv a0 8) % 256) % 8)) : ByteArray)).size + (Utf8.encode (bt (⟨#[48, 49, 50, 51, 52, 53, 54, 55]⟩ : ByteArray) (Int.tmod a0 8)) : ByteArray).size ≤ 9223372036854775807 then (some ((((⟨#[48]⟩ : ByteArray) ++ (Utf8.encode (bt (⟨#[48, 49, 50, 51, 52, 53, 54, 55]⟩ : ByteArray) (ji2)) : ByteArray)) ++ (Utf8.encode (bt (⟨#[48, 49, 50, 51, 52, 53, 54, 55]⟩ : ByteArray) (((Int.tdiv a0 8) % 256) % 8)) : ByteArray)) ++ (Utf8.encode (bt (⟨#[48, 49, 50, 51, 52, 53, 54, 55]⟩ : ByteArray) (Int.tmod a0 8)) : ByteArray))) else (none)) else (none)) else (none)) else (none)) else (none)) else (none)) else (none)) else (none)) else (none)) = some r := by first | (rw [hji2] at H; exact H) | (simp only [hji2] at H ⊢; exact H)
  by_cases c3 : 0 ≤ (ji2)
  · rw [if_pos c3] at H
    have c3b0 : decide (0 ≤ (ji2)) = true := decide_eq_true c3
    clear c3
    by_cases c4 : (ji2) < 8
    · rw [if_pos c4] at H
      have c4b0 : decide ((ji2) < 8) = true := decide_eq_true c4
      clear c4
      by_cases c6 : 1 + (Utf8.encode (bt (⟨#[48, 49, 50, 51, 52, 53, 54, 55]⟩ : ByteArray) (ji2)) : ByteArray).size ≤ 9223372036854775807
      · rw [if_pos c6] at H
        have c6b0 := eq_true c6
        have c6b1 : decide (1 + (Utf8.encode (bt (⟨#[48, 49, 50, 51, 52, 53, 54, 55]⟩ : ByteArray) (ji2)) : ByteArray).size ≤ 9223372036854775807) = true := decide_eq_true c6
        try have c6b2 : (9223372036854775807 < 1 + (Utf8.encode (bt (⟨#[48, 49, 50, 51, 52, 53, 54, 55]⟩ : ByteArray) (ji2)) : ByteArray).size) = False := eq_false (Nat.not_lt.2 c6)
        obtain ⟨ji7, hji7⟩ : ∃ j_ : Int, (((Int.tdiv a0 8) % 256) % 8) = j_ := ⟨_, rfl⟩
        replace H : (if 0 ≤ (ji7) then (if (ji7) < 8 then (if ((⟨#[48]⟩ : ByteArray) ++ (Utf8.encode (bt (⟨#[48, 49, 50, 51, 52, 53, 54, 55]⟩ : ByteArray) (ji2)) : ByteArray)).size + (Utf8.encode (bt (⟨#[48, 49, 50, 51, 52, 53, 54, 55]⟩ : ByteArray) (ji7)) : ByteArray).size ≤ 9223372036854775807 then (if 0 ≤ (Int.tmod a0 8) then (if (Int.tmod a0 8) < 8 then (if (((⟨#[48]⟩ : ByteArray) ++ (Utf8.encode (bt (⟨#[48, 49, 50, 51, 52, 53, 54, 55]⟩ : ByteArray) (ji2)) : ByteArray)) ++ (Utf8.encode (bt (⟨#[48, 49, 50, 51, 52, 53, 54, 55]⟩ : ByteArray) (ji7)) : ByteArray)).size + (Utf8.encode (bt (⟨#[48, 49, 50, 51, 52, 53, 54, 55]⟩ : ByteArray) (Int.tmod a0 8)) : ByteArray).size ≤ 9223372036854775807 then (some ((((⟨#[48]⟩ : ByteArray) ++ (Utf8.encode (bt (⟨#[48, 49, 50, 51, 52, 53, 54, 55]⟩ : ByteArray) (ji2)) : ByteArray)) ++ (Utf8.encode (bt (⟨#[48, 49, 50, 51, 52, 53, 54, 55]⟩ : ByteArray) (ji7)) : ByteArray)) ++ (Utf8.encode (bt (⟨#[48, 49, 50, 51, 52, 53, 54, 55]⟩ : ByteArray) (Int.tmod a0 8)) : ByteArray))) else (none)) else (none)) else (none)) else (none)) else (none)) else (none)) = some r := by first | (rw [hji7] at H; exact H) | (simp only [hji7] at H ⊢; exact H)
        by_cases c8 : 0 ≤ (ji7)
        · rw [if_pos c8] at H
          have c8b0 : decide (0 ≤ (ji7)) = true := decide_eq_true c8
          clear c8
          by_cases c9 : (ji7) < 8
          · rw [if_pos c9] at H
            have c9b0 : decide ((ji7) < 8) = true := decide_eq_true c9
            clear c9
            by_cases c11 : ((⟨#[48]⟩ : ByteArray) ++ (Utf8.encode (bt (⟨#[48, 49, 50, 51, 52, 53, 54, 55]⟩ : ByteArray) (ji2)) : ByteArray)).size + (Utf8.encode (bt (⟨#[48, 49, 50, 51, 52, 53, 54, 55]⟩ : ByteArray) (ji7)) : ByteArray).size ≤ 9223372036854775807
            · rw [if_pos c11] at H
              have c11b0 := eq_true c11
              have c11b1 : decide (((⟨#[48]⟩ : ByteArray) ++ (Utf8.encode (bt (⟨#[48, 49, 50, 51, 52, 53, 54, 55]⟩ : ByteArray) (ji2)) : ByteArray)).size + (Utf8.encode (bt (⟨#[48, 49, 50, 51, 52, 53, 54, 55]⟩ : ByteArray) (ji7)) : ByteArray).size ≤ 9223372036854775807) = true := decide_eq_true c11
              try have c11b2 : (9223372036854775807 < ((⟨#[48]⟩ : ByteArray) ++ (Utf8.encode (bt (⟨#[48, 49, 50, 51, 52, 53, 54, 55]⟩ : ByteArray) (ji2)) : ByteArray)).size + (Utf8.encode (bt (⟨#[48, 49, 50, 51, 52, 53, 54, 55]⟩ : ByteArray) (ji7)) : ByteArray).size) = False := eq_false (Nat.not_lt.2 c11)
              obtain ⟨ji12, hji12⟩ : ∃ j_ : Int, (Int.tmod a0 8) = j_ := ⟨_, rfl⟩
              replace H : (if 0 ≤ (ji12) then (if (ji12) < 8 then (if (((⟨#[48]⟩ : ByteArray) ++ (Utf8.encode (bt (⟨#[48, 49, 50, 51, 52, 53, 54, 55]⟩ : ByteArray) (ji2)) : ByteArray)) ++ (Utf8.encode (bt (⟨#[48, 49, 50, 51, 52, 53, 54, 55]⟩ : ByteArray) (ji7)) : ByteArray)).size + (Utf8.encode (bt (⟨#[48, 49, 50, 51, 52, 53, 54, 55]⟩ : ByteArray) (ji12)) : ByteArray).size ≤ 9223372036854775807 then (some ((((⟨#[48]⟩ : ByteArray) ++ (Utf8.encode (bt (⟨#[48, 49, 50, 51, 52, 53, 54, 55]⟩ : ByteArray) (ji2)) : ByteArray)) ++ (Utf8.encode (bt (⟨#[48, 49, 50, 51, 52, 53, 54, 55]⟩ : ByteArray) (ji7)) : ByteArray)) ++ (Utf8.encode (bt (⟨#[48, 49, 50, 51, 52, 53, 54, 55]⟩ : ByteArray) (ji12)) : ByteArray))) else (none)) else (none)) else (none)) = some r := by first | (rw [hji12] at H; exact H) | (simp only [hji12] at H ⊢; exact H)
              by_cases c13 : 0 ≤ (ji12)
              · rw [if_pos c13] at H
                have c13b0 : decide (0 ≤ (ji12)) = true := decide_eq_true c13
                clear c13
                by_cases c14 : (ji12) < 8
                · rw [if_pos c14] at H
                  have c14b0 : decide ((ji12) < 8) = true := decide_eq_true c14
                  clear c14
                  by_cases c16 : (((⟨#[48]⟩ : ByteArray) ++ (Utf8.encode (bt (⟨#[48, 49, 50, 51, 52, 53, 54, 55]⟩ : ByteArray) (ji2)) : ByteArray)) ++ (Utf8.encode (bt (⟨#[48, 49, 50, 51, 52, 53, 54, 55]⟩ : ByteArray) (ji7)) : ByteArray)).size + (Utf8.encode (bt (⟨#[48, 49, 50, 51, 52, 53, 54, 55]⟩ : ByteArray) (ji12)) : ByteArray).size ≤ 9223372036854775807
                  · rw [if_pos c16] at H
                    have c16b0 := eq_true c16
                    have c16b1 : decide ((((⟨#[48]⟩ : ByteArray) ++ (Utf8.encode (bt (⟨#[48, 49, 50, 51, 52, 53, 54, 55]⟩ : ByteArray) (ji2)) : ByteArray)) ++ (Utf8.encode (bt (⟨#[48, 49, 50, 51, 52, 53, 54, 55]⟩ : ByteArray) (ji7)) : ByteArray)).size + (Utf8.encode (bt (⟨#[48, 49, 50, 51, 52, 53, 54, 55]⟩ : ByteArray) (ji12)) : ByteArray).size ≤ 9223372036854775807) = true := decide_eq_true c16
                    try have c16b2 : (9223372036854775807 < (((⟨#[48]⟩ : ByteArray) ++ (Utf8.encode (bt (⟨#[48, 49, 50, 51, 52, 53, 54, 55]⟩ : ByteArray) (ji2)) : ByteArray)) ++ (Utf8.encode (bt (⟨#[48, 49, 50, 51, 52, 53, 54, 55]⟩ : ByteArray) (ji7)) : ByteArray)).size + (Utf8.encode (bt (⟨#[48, 49, 50, 51, 52, 53, 54, 55]⟩ : ByteArray) (ji12)) : ByteArray).size) = False := eq_false (Nat.not_lt.2 c16)
                    obtain rfl := Option.some.inj H
                    have p5 : 0 ≤ ((ji2) : Int) := of_decide_eq_true (by first | (with_reducible assumption) | assumption)
                    have q5 : (ji2) < (8 : Int) := of_decide_eq_true (by first | (with_reducible assumption) | assumption)
                    have hx5 := bt_at (⟨#[48, 49, 50, 51, 52, 53, 54, 55]⟩ : ByteArray) (ji2)
                    replace p5 := eq_true p5
                    replace q5 := eq_true q5
                    have p10 : 0 ≤ ((ji7) : Int) := of_decide_eq_true (by first | (with_reducible assumption) | assumption)
                    have q10 : (ji7) < (8 : Int) := of_decide_eq_true (by first | (with_reducible assumption) | assumption)
                    have hx10 := bt_at (⟨#[48, 49, 50, 51, 52, 53, 54, 55]⟩ : ByteArray) (ji7)
                    replace p10 := eq_true p10
                    replace q10 := eq_true q10
                    have p15 : 0 ≤ ((ji12) : Int) := of_decide_eq_true (by first | (with_reducible assumption) | assumption)
                    have q15 : (ji12) < (8 : Int) := of_decide_eq_true (by first | (with_reducible assumption) | assumption)
                    have hx15 := bt_at (⟨#[48, 49, 50, 51, 52, 53, 54, 55]⟩ : ByteArray) (ji12)
                    replace p15 := eq_true p15
                    replace q15 := eq_true q15
                    go_enter Tryd.func22, Tryd.ntmps22
                    go_wp2
                    repeat (go_quiet (fail); try go_wp2)
                    go_ret
                    exact ⟨by first | rfl | (simp; done) | (simp only [← hji2, ← hji7, ← hji12] <;> (first | rfl | simp)) | (simp [*]; done), by repeat (first | exact Drawn0.refl _ | apply Drawn0.step)⟩
                  · rw [if_neg c16] at H
                    exact absurd H (by simp)
                · rw [if_neg c14] at H
                  exact absurd H (by simp)
              · rw [if_neg c13] at H
                exact absurd H (by simp)
            · rw [if_neg c11] at H
              exact absurd H (by simp)
          · rw [if_neg c9] at H
            exact absurd H (by simp)
        · rw [if_neg c8] at H
          exact absurd H (by simp)
      · rw [if_neg c6] at H
        exact absurd H (by simp)
    · rw [if_neg c4] at H
      exact absurd H (by simp)
  · rw [if_neg c3] at H
    exact absurd H (by simp)
end Go.Proofs.YtkabhnbjjnjdhaaDoor.Q
