/- Functions of the given program as plain Lean functions, each with the proof that the machine answers as it does; laid by a program of mine over the kit print. -/
import Derived.Test.YtnndgmbflkdhkaaGreatDoorSQbase
import Derived.Test.YtnndgmbflkdhkaaGreatDoorSB8
import Derived.Test.YtnndgmbflkdhkaaGreatDoorSB4
namespace Go.Proofs.YtnndgmbflkdhkaaGreatDoor.Q
open Go.RowKit Go.Proofs.YtnndgmbflkdhkaaGreatDoorW.PrintWords Go.Proofs.YtnndgmbflkdhkaaGreatDoorW.PrintLast Go.Proofs.YtnndgmbflkdhkaaGreatDoorW.PrintMore
attribute [local go_sem] max2_int min2_int max_two min_two max_three min_three max_four min_four
set_option linter.unusedVariables false
set_option linter.unusedSimpArgs false
mutual
def bastionref14_name.l0 : Nat → ByteArray → Int → Int → Option (Int)
 | 0, _, _, _ => none
 | k + 1, x0, x3, x4 => if x3 < (x0.size : Int) then (if 0 ≤ x3 then ((bastionref14_letter.f (bt x0 x3)).bind fun t149 => (if t149 = true then (bastionref14_name.j1 k x0 x3 x4 (bt x0 x3) true) else ((bastionref14_digit.f (bt x0 x3)).bind fun t150 => (if t150 = true then (bastionref14_name.j1 k x0 x3 x4 (bt x0 x3) true) else (if (bt x0 x3) = 45 then (bastionref14_name.j1 k x0 x3 x4 (bt x0 x3) true) else (bastionref14_name.j1 k x0 x3 x4 (bt x0 x3) ((bt x0 x3) == 95))))))) else (none)) else (if x3 = 0 then (some (-1)) else (some x3))
def bastionref14_name.j1 : Nat → ByteArray → Int → Int → Int → Bool → Option (Int)
 | 0, _, _, _, _, _ => none
 | k + 1, x0, x3, x4, x5, x26 => if x26 = true then (bastionref14_name.l0 k x0 (wrap64 (x3 + 1)) (wrap64 (x4 + 1))) else (if x5 = 46 then (if x4 > 0 then (bastionref14_name.l0 k x0 (wrap64 (x3 + 1)) 0) else (if x3 = 0 then (some (-1)) else (if x3 < (x0.size : Int) then (if 0 ≤ x3 then (if (bt x0 x3) = 46 then (some (-1)) else (some x3)) else (none)) else (some x3)))) else (if x3 = 0 then (some (-1)) else (if x3 < (x0.size : Int) then (if 0 ≤ x3 then (if (bt x0 x3) = 46 then (some (-1)) else (some x3)) else (none)) else (some x3))))
end
def bastionref14_name.f (k : Nat) (a0 : ByteArray) : Option (Int) := bastionref14_name.l0 k a0 0 0
set_option maxHeartbeats 8000000 in
set_option maxRecDepth 100000 in
theorem bastionref14_name.calls (k : Nat) (a0 : ByteArray) (r : Int) (w : World) (h : bastionref14_name.f k a0 = some r) :
  Calls Tryz.prog 80 #[.string a0] w fun e w' => e = .returned (.int .i64 r) ∧ Drawn0 w w' := by
 have H : (bastionref14_name.l0 k a0 0 0) = some r := h
 clear h
 have H' := Aside0.mk H
 clear H
 go_enter Tryz.func80, Tryz.ntmps80
 go_wp2
 go_loopg [3, 4] k (fun kq v3 v4 w' => ∃ (x3_1 : Int) (x4_1 : Int), v3 = .int .i64 x3_1 ∧ v4 = .int .i64 x4_1 ∧ Aside0 (bastionref14_name.l0 kq a0 x3_1 x4_1 = some r) ∧ Aside0 (kq ≤ k) ∧ Drawn0 w w')
 case atStart => exact ⟨(0), (0), (by first | rfl | (simp; done) | (simp [*]; done)), (by first | rfl | (simp; done) | (simp [*]; done)), H', ⟨Nat.le_refl _⟩, by repeat (first | exact Drawn0.refl _ | apply Drawn0.step)⟩
 case round =>
  clear H'
  obtain ⟨x3_1, x4_1, rfl, rfl, HA, HK1, ⟨m1, rfl⟩⟩ := hrel
  cases gk with
  | zero => exact absurd HA.out (by simp [bastionref14_name.l0])
  | succ k1 =>
   have H := HA.out
   clear HA
   simp only [bastionref14_name.l0] at H
   by_cases c2 : x3_1 < (a0.size : Int)
   ·rw [if_pos c2] at H
    have c2b0 : decide (x3_1 < (a0.size : Int)) = true := decide_eq_true c2
    clear c2
    by_cases c3 : 0 ≤ x3_1
    ·rw [if_pos c3] at H
     have c3b0 : decide (0 ≤ x3_1) = true := decide_eq_true c3
     clear c3
     have HC5 := Aside0.mk H
     clear H
     have p4 : 0 ≤ (x3_1 : Int) := of_decide_eq_true (by first | (with_reducible assumption) | assumption)
     have q4 : x3_1 < (a0.size : Int) := of_decide_eq_true (by first | (with_reducible assumption) | assumption)
     have hx4 := bt_at a0 x3_1
     replace p4 := eq_true p4
     replace q4 := eq_true q4
     go_upto_region 4 with (fail)
     go_cut [26] (fun v26 wc => ∃ (kq : Nat) (x26_4 : Bool), v26 = .bool x26_4 ∧ Aside0 (bastionref14_name.j1 kq a0 x3_1 x4_1 (bt a0 x3_1) x26_4 = some r) ∧ Aside0 (kq ≤ k1) ∧ Drawn0 w wc)
     case first =>
      have H := HC5.out
      clear HC5
      replace H := Option.bind_eq_some_iff.mp H
      obtain ⟨t149, A60, H⟩ := H
      replace H : (if t149 = true then (bastionref14_name.j1 k1 a0 x3_1 x4_1 (bt a0 x3_1) true) else ((bastionref14_digit.f (bt a0 x3_1)).bind fun t150 => (if t150 = true then (bastionref14_name.j1 k1 a0 x3_1 x4_1 (bt a0 x3_1) true) else (if (bt a0 x3_1) = 45 then (bastionref14_name.j1 k1 a0 x3_1 x4_1 (bt a0 x3_1) true) else (bastionref14_name.j1 k1 a0 x3_1 x4_1 (bt a0 x3_1) ((bt a0 x3_1) == 95)))))) = some r := H
      have A6 := Aside0.mk A60
      clear A60
      by_cases c7 : t149 = true
      ·subst c7
       have H1 : (bastionref14_name.j1 k1 a0 x3_1 x4_1 (bt a0 x3_1) true) = some r := by rw [if_pos rfl] at H; exact H
       clear H
       have H := H1
       clear H1
       have H' := Aside0.mk H
       clear H
       go_wp2_with (first | ((with_reducible refine gate_callee (f := 78) rfl ?_); refine goesL_ (some 14) rfl rfl Tryz.func78 (by kernel_rfl) rfl #[.int .u8 (bt a0 x3_1)] rfl (by (try simp only [List.map_toArray, List.map_cons, List.map_nil]); first | done | rfl | (simp only [List.length_drop, List.length_take]; rfl)) ?_; (with_reducible refine (bastionref14_letter.calls (bt a0 x3_1) true _ A6.out).mono ?_); rintro e w' ⟨rfl, ⟨nd, rfl⟩⟩; refine ⟨_, rfl, ?_⟩))
       go_meet
       case rel => exact ⟨_, (true), (by first | rfl | (simp; done) | (simp [*]; done)), H', ⟨by have := HK1.out; first | omega | exact Nat.le_refl _⟩, by repeat (first | exact Drawn0.refl _ | apply Drawn0.step)⟩
      ·replace c7 := Bool.eq_false_iff.mpr c7
       subst c7
       have H1 : ((bastionref14_digit.f (bt a0 x3_1)).bind fun t150 => (if t150 = true then (bastionref14_name.j1 k1 a0 x3_1 x4_1 (bt a0 x3_1) true) else (if (bt a0 x3_1) = 45 then (bastionref14_name.j1 k1 a0 x3_1 x4_1 (bt a0 x3_1) true) else (bastionref14_name.j1 k1 a0 x3_1 x4_1 (bt a0 x3_1) ((bt a0 x3_1) == 95))))) = some r := by rw [if_neg (show ¬ (false = true) by decide)] at H; exact H
       clear H
       have H := H1
       clear H1
       replace H := Option.bind_eq_some_iff.mp H
       obtain ⟨t150, A80, H⟩ := H
       replace H : (if t150 = true then (bastionref14_name.j1 k1 a0 x3_1 x4_1 (bt a0 x3_1) true) else (if (bt a0 x3_1) = 45 then (bastionref14_name.j1 k1 a0 x3_1 x4_1 (bt a0 x3_1) true) else (bastionref14_name.j1 k1 a0 x3_1 x4_1 (bt a0 x3_1) ((bt a0 x3_1) == 95)))) = some r := H
       have A8 := Aside0.mk A80
       clear A80
       by_cases c9 : t150 = true
       ·subst c9
        have H1 : (bastionref14_name.j1 k1 a0 x3_1 x4_1 (bt a0 x3_1) true) = some r := by rw [if_pos rfl] at H; exact H
        clear H
        have H := H1
        clear H1
        have H' := Aside0.mk H
        clear H
        go_wp2_with (first | ((with_reducible refine gate_callee (f := 78) rfl ?_); refine goesL_ (some 14) rfl rfl Tryz.func78 (by kernel_rfl) rfl #[.int .u8 (bt a0 x3_1)] rfl (by (try simp only [List.map_toArray, List.map_cons, List.map_nil]); first | done | rfl | (simp only [List.length_drop, List.length_take]; rfl)) ?_; (with_reducible refine (bastionref14_letter.calls (bt a0 x3_1) false _ A6.out).mono ?_); rintro e w' ⟨rfl, ⟨nd, rfl⟩⟩; refine ⟨_, rfl, ?_⟩) | (go_at_call 79; (with_reducible refine (bastionref14_digit.calls (bt a0 x3_1) true _ A8.out).mono ?_); rintro e w' ⟨rfl, ⟨nd, rfl⟩⟩))
        go_meet
        case rel => exact ⟨_, (true), (by first | rfl | (simp; done) | (simp [*]; done)), H', ⟨by have := HK1.out; first | omega | exact Nat.le_refl _⟩, by repeat (first | exact Drawn0.refl _ | apply Drawn0.step)⟩
       ·replace c9 := Bool.eq_false_iff.mpr c9
        subst c9
        have H1 : (if (bt a0 x3_1) = 45 then (bastionref14_name.j1 k1 a0 x3_1 x4_1 (bt a0 x3_1) true) else (bastionref14_name.j1 k1 a0 x3_1 x4_1 (bt a0 x3_1) ((bt a0 x3_1) == 95))) = some r := by rw [if_neg (show ¬ (false = true) by decide)] at H; exact H
        clear H
        have H := H1
        clear H1
        by_cases c10 : (bt a0 x3_1) = 45
        ·rw [if_pos c10] at H
         have c10b0 : ((bt a0 x3_1) == 45) = true := beq_iff_eq.mpr c10
         have c10b1 : ((bt a0 x3_1) != 45) = false := bne_eq_false_iff_eq.mpr c10
         clear c10
         (first | rw [c10b0] | (simp only [i64_w, i32_w]; rw [c10b0]) | skip)
         have H' := Aside0.mk H
         clear H
         go_wp2_with (first | ((with_reducible refine gate_callee (f := 78) rfl ?_); refine goesL_ (some 14) rfl rfl Tryz.func78 (by kernel_rfl) rfl #[.int .u8 (bt a0 x3_1)] rfl (by (try simp only [List.map_toArray, List.map_cons, List.map_nil]); first | done | rfl | (simp only [List.length_drop, List.length_take]; rfl)) ?_; (with_reducible refine (bastionref14_letter.calls (bt a0 x3_1) false _ A6.out).mono ?_); rintro e w' ⟨rfl, ⟨nd, rfl⟩⟩; refine ⟨_, rfl, ?_⟩) | (go_at_call 79; (with_reducible refine (bastionref14_digit.calls (bt a0 x3_1) false _ A8.out).mono ?_); rintro e w' ⟨rfl, ⟨nd, rfl⟩⟩))
         go_meet
         case rel => exact ⟨_, (true), (by first | rfl | (simp; done) | (simp [*]; done)), H', ⟨by have := HK1.out; first | omega | exact Nat.le_refl _⟩, by repeat (first | exact Drawn0.refl _ | apply Drawn0.step)⟩
        ·rw [if_neg c10] at H
         have c10b0 : ((bt a0 x3_1) == 45) = false := beq_eq_false_iff_ne.mpr c10
         have c10b1 : ((bt a0 x3_1) != 45) = true := bne_iff_ne.mpr c10
         (first | rw [c10b0] | (simp only [i64_w, i32_w]; rw [c10b0]) | skip)
         have H' := Aside0.mk H
         clear H
         go_wp2_with (first | ((with_reducible refine gate_callee (f := 78) rfl ?_); refine goesL_ (some 14) rfl rfl Tryz.func78 (by kernel_rfl) rfl #[.int .u8 (bt a0 x3_1)] rfl (by (try simp only [List.map_toArray, List.map_cons, List.map_nil]); first | done | rfl | (simp only [List.length_drop, List.length_take]; rfl)) ?_; (with_reducible refine (bastionref14_letter.calls (bt a0 x3_1) false _ A6.out).mono ?_); rintro e w' ⟨rfl, ⟨nd, rfl⟩⟩; refine ⟨_, rfl, ?_⟩) | (go_at_call 79; (with_reducible refine (bastionref14_digit.calls (bt a0 x3_1) false _ A8.out).mono ?_); rintro e w' ⟨rfl, ⟨nd, rfl⟩⟩))
         go_meet
         case rel => exact ⟨_, (((bt a0 x3_1) == 95)), (by first | rfl | (simp; done) | (simp [*]; done)), H', ⟨by have := HK1.out; first | omega | exact Nat.le_refl _⟩, by repeat (first | exact Drawn0.refl _ | apply Drawn0.step)⟩
     case rest =>
      clear HC5
      (try clear c1); (try clear c2); (try clear c2b0); (try clear p2); (try clear c3); (try clear c3b0); (try clear p4); (try clear q4); (try clear hx4); (try clear c7); (try clear c8); (try clear c9); (try clear c10); (try clear c10b0); (try clear c10b1); (try clear p4); (try clear q4)
      obtain ⟨kq, x26_4, rfl, HA, HJ4, ⟨mc4, rfl⟩⟩ := hcut
      cases kq with
      | zero => exact absurd HA.out (by simp [bastionref14_name.j1])
      | succ kj4 =>
       have H := HA.out
       clear HA
       simp only [bastionref14_name.j1] at H
       by_cases c11 : x26_4 = true
       ·subst c11
        have H1 : (bastionref14_name.l0 kj4 a0 (wrap64 (x3_1 + 1)) (wrap64 (x4_1 + 1))) = some r := by rw [if_pos rfl] at H; exact H
        clear H
        have H := H1
        clear H1
        have H' := Aside0.mk H
        clear H
        go_wp2
        go_roundg kj4
        case measure => have := HK1.out; have := HJ4.out; omega
        case rel => exact ⟨(wrap64 (x3_1 + 1)), (wrap64 (x4_1 + 1)), (by first | rfl | (simp; done) | (simp [*]; done)), (by first | rfl | (simp; done) | (simp [*]; done)), H', ⟨by have := HK1.out; have := HJ4.out; omega⟩, by repeat (first | exact Drawn0.refl _ | apply Drawn0.step)⟩
       ·replace c11 := Bool.eq_false_iff.mpr c11
        subst c11
        have H1 : (if (bt a0 x3_1) = 46 then (if x4_1 > 0 then (bastionref14_name.l0 kj4 a0 (wrap64 (x3_1 + 1)) 0) else (if x3_1 = 0 then (some (-1)) else (if x3_1 < (a0.size : Int) then (if 0 ≤ x3_1 then (if (bt a0 x3_1) = 46 then (some (-1)) else (some x3_1)) else (none)) else (some x3_1)))) else (if x3_1 = 0 then (some (-1)) else (if x3_1 < (a0.size : Int) then (if 0 ≤ x3_1 then (if (bt a0 x3_1) = 46 then (some (-1)) else (some x3_1)) else (none)) else (some x3_1)))) = some r := by rw [if_neg (show ¬ (false = true) by decide)] at H; exact H
        clear H
        have H := H1
        clear H1
        by_cases c12 : (bt a0 x3_1) = 46
        ·rw [if_pos c12] at H
         have c12b0 : ((bt a0 x3_1) == 46) = true := beq_iff_eq.mpr c12
         have c12b1 : ((bt a0 x3_1) != 46) = false := bne_eq_false_iff_eq.mpr c12
         clear c12
         by_cases c13 : x4_1 > 0
         ·rw [if_pos c13] at H
          have c13b0 : decide (0 < x4_1) = true := decide_eq_true c13
          clear c13
          have H' := Aside0.mk H
          clear H
          go_wp2
          go_roundg kj4
          case measure => have := HK1.out; have := HJ4.out; omega
          case rel => exact ⟨(wrap64 (x3_1 + 1)), (0), (by first | rfl | (simp; done) | (simp [*]; done)), (by first | rfl | (simp; done) | (simp [*]; done)), H', ⟨by have := HK1.out; have := HJ4.out; omega⟩, by repeat (first | exact Drawn0.refl _ | apply Drawn0.step)⟩
         ·rw [if_neg c13] at H
          have c13b0 : decide (0 < x4_1) = false := decide_eq_false c13
          clear c13
          by_cases c14 : x3_1 = 0
          ·rw [if_pos c14] at H
           have c14b0 : (x3_1 == 0) = true := beq_iff_eq.mpr c14
           have c14b1 : (x3_1 != 0) = false := bne_eq_false_iff_eq.mpr c14
           clear c14
           obtain rfl := Option.some.inj H
           go_wp2
           go_ret
           exact ⟨by first | rfl | (simp; done) | (simp [*]; done), by repeat (first | exact Drawn0.refl _ | apply Drawn0.step)⟩
          ·rw [if_neg c14] at H
           have c14b0 : (x3_1 == 0) = false := beq_eq_false_iff_ne.mpr c14
           have c14b1 : (x3_1 != 0) = true := bne_iff_ne.mpr c14
           by_cases c15 : x3_1 < (a0.size : Int)
           ·rw [if_pos c15] at H
            have c15b0 : decide (x3_1 < (a0.size : Int)) = true := decide_eq_true c15
            clear c15
            by_cases c16 : 0 ≤ x3_1
            ·rw [if_pos c16] at H
             have c16b0 : decide (0 ≤ x3_1) = true := decide_eq_true c16
             clear c16
             by_cases c18 : (bt a0 x3_1) = 46
             ·rw [if_pos c18] at H
              have c18b0 : ((bt a0 x3_1) == 46) = true := beq_iff_eq.mpr c18
              have c18b1 : ((bt a0 x3_1) != 46) = false := bne_eq_false_iff_eq.mpr c18
              clear c18
              obtain rfl := Option.some.inj H
              have p17 : 0 ≤ (x3_1 : Int) := of_decide_eq_true (by first | (with_reducible assumption) | assumption)
              have q17 : x3_1 < (a0.size : Int) := of_decide_eq_true (by first | (with_reducible assumption) | assumption)
              have hx17 := bt_at a0 x3_1
              replace p17 := eq_true p17
              replace q17 := eq_true q17
              go_wp2
              go_ret
              exact ⟨by first | rfl | (simp; done) | (simp [*]; done), by repeat (first | exact Drawn0.refl _ | apply Drawn0.step)⟩
             ·exact absurd (by first | exact of_eq_true c12b0 | exact of_decide_eq_true c12b0 | exact beq_iff_eq.mp c12b0 | assumption) c18
            ·rw [if_neg c16] at H
             exact absurd H (by simp)
           ·rw [if_neg c15] at H
            have c15b0 : decide (x3_1 < (a0.size : Int)) = false := decide_eq_false c15
            clear c15
            obtain rfl := Option.some.inj H
            go_wp2
            go_ret
            exact ⟨by first | rfl | (simp; done) | (simp [*]; done), by repeat (first | exact Drawn0.refl _ | apply Drawn0.step)⟩
        ·rw [if_neg c12] at H
         have c12b0 : ((bt a0 x3_1) == 46) = false := beq_eq_false_iff_ne.mpr c12
         have c12b1 : ((bt a0 x3_1) != 46) = true := bne_iff_ne.mpr c12
         by_cases c19 : x3_1 = 0
         ·rw [if_pos c19] at H
          have c19b0 : (x3_1 == 0) = true := beq_iff_eq.mpr c19
          have c19b1 : (x3_1 != 0) = false := bne_eq_false_iff_eq.mpr c19
          clear c19
          obtain rfl := Option.some.inj H
          go_wp2
          go_ret
          exact ⟨by first | rfl | (simp; done) | (simp [*]; done), by repeat (first | exact Drawn0.refl _ | apply Drawn0.step)⟩
         ·rw [if_neg c19] at H
          have c19b0 : (x3_1 == 0) = false := beq_eq_false_iff_ne.mpr c19
          have c19b1 : (x3_1 != 0) = true := bne_iff_ne.mpr c19
          by_cases c20 : x3_1 < (a0.size : Int)
          ·rw [if_pos c20] at H
           have c20b0 : decide (x3_1 < (a0.size : Int)) = true := decide_eq_true c20
           clear c20
           by_cases c21 : 0 ≤ x3_1
           ·rw [if_pos c21] at H
            have c21b0 : decide (0 ≤ x3_1) = true := decide_eq_true c21
            clear c21
            by_cases c23 : (bt a0 x3_1) = 46
            ·exact absurd c23 (by first | exact of_eq_false c12b0 | exact of_decide_eq_false c12b0 | exact beq_eq_false_iff_ne.mp c12b0 | assumption)
            ·rw [if_neg c23] at H
             have c23b0 : ((bt a0 x3_1) == 46) = false := beq_eq_false_iff_ne.mpr c23
             have c23b1 : ((bt a0 x3_1) != 46) = true := bne_iff_ne.mpr c23
             obtain rfl := Option.some.inj H
             have p22 : 0 ≤ (x3_1 : Int) := of_decide_eq_true (by first | (with_reducible assumption) | assumption)
             have q22 : x3_1 < (a0.size : Int) := of_decide_eq_true (by first | (with_reducible assumption) | assumption)
             have hx22 := bt_at a0 x3_1
             replace p22 := eq_true p22
             replace q22 := eq_true q22
             go_wp2
             go_ret
             exact ⟨by first | rfl | (simp; done) | (simp [*]; done), by repeat (first | exact Drawn0.refl _ | apply Drawn0.step)⟩
           ·rw [if_neg c21] at H
            exact absurd H (by simp)
          ·rw [if_neg c20] at H
           have c20b0 : decide (x3_1 < (a0.size : Int)) = false := decide_eq_false c20
           clear c20
           obtain rfl := Option.some.inj H
           go_wp2
           go_ret
           exact ⟨by first | rfl | (simp; done) | (simp [*]; done), by repeat (first | exact Drawn0.refl _ | apply Drawn0.step)⟩
    ·rw [if_neg c3] at H
     exact absurd H (by simp)
   ·rw [if_neg c2] at H
    have c2b0 : decide (x3_1 < (a0.size : Int)) = false := decide_eq_false c2
    clear c2
    by_cases c24 : x3_1 = 0
    ·rw [if_pos c24] at H
     have c24b0 : (x3_1 == 0) = true := beq_iff_eq.mpr c24
     have c24b1 : (x3_1 != 0) = false := bne_eq_false_iff_eq.mpr c24
     clear c24
     obtain rfl := Option.some.inj H
     go_wp2
     go_ret
     exact ⟨by first | rfl | (simp; done) | (simp [*]; done), by repeat (first | exact Drawn0.refl _ | apply Drawn0.step)⟩
    ·rw [if_neg c24] at H
     have c24b0 : (x3_1 == 0) = false := beq_eq_false_iff_ne.mpr c24
     have c24b1 : (x3_1 != 0) = true := bne_iff_ne.mpr c24
     obtain rfl := Option.some.inj H
     go_wp2
     go_ret
     exact ⟨by first | rfl | (simp; done) | (simp [*]; done), by repeat (first | exact Drawn0.refl _ | apply Drawn0.step)⟩
end Go.Proofs.YtnndgmbflkdhkaaGreatDoor.Q
