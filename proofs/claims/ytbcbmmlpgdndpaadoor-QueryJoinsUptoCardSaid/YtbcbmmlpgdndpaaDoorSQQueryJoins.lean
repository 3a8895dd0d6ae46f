/- Functions of the given program as plain Lean functions, each with the proof that the machine answers as it does; laid by a program of mine over the kit print. -/
import Derived.Test.YtbcbmmlpgdndpaaDoorSB4
import Derived.Test.YtbcbmmlpgdndpaaDoorSQParse
import Derived.Test.YtbcbmmlpgdndpaaDoorSQPrint
import Derived.Test.YtbcbmmlpgdndpaaDoorSQbastionlaw112
import Derived.Test.YtbcbmmlpgdndpaaDoorSQbastionref110
namespace Go.Proofs.YtbcbmmlpgdndpaaDoor.Q
open Go.RowKit Go.Proofs.YtbcbmmlpgdndpaaDoorW.PrintWords Go.Proofs.YtbcbmmlpgdndpaaDoorW.PrintLast Go.Proofs.YtbcbmmlpgdndpaaDoorW.PrintMore
attribute [local go_sem] max2_int min2_int max_two min_two max_three min_three max_four min_four
set_option linter.unusedVariables false
set_option linter.unusedSimpArgs false
mutual
def bastionlaw11_QueryJoins.j0 : Nat → List (S32) → Bool → Option (Bool)
  | 0, _, _ => none
  | k + 1, x2, x58 => if x58 = true then (some false) else ((query_Print.f x2).bind fun bt468 => (if bt468.2 = 0 then (bastionlaw11_QueryJoins.l0 k x2 bt468.1 (⟨#[]⟩ : ByteArray) (x2.length : Int) 0) else (some (bt468.1.toList == ([] : List UInt8)))))
def bastionlaw11_QueryJoins.l0 : Nat → List (S32) → ByteArray → ByteArray → Int → Int → Option (Bool)
  | 0, _, _, _, _, _ => none
  | k + 1, x2, x13, x15, x69, x70 => if x70 < x69 then (if 0 ≤ x70 then (if x70 ≤ (wrap64 (x70 + 1)) then (if (wrap64 (x70 + 1)) ≤ (x2.length : Int) then ((query_Print.f ((x2.take ((wrap64 (x70 + 1)) : Int).toNat).drop (x70 : Int).toNat)).bind fun bt474 => (if bt474.2 = 0 then (if x70 > 0 then (if x15.size + 1 ≤ 9223372036854775807 then (if (x15 ++ (⟨#[38]⟩ : ByteArray)).size + bt474.1.size ≤ 9223372036854775807 then (bastionlaw11_QueryJoins.l0 k x2 x13 ((x15 ++ (⟨#[38]⟩ : ByteArray)) ++ bt474.1) x69 (wrap64 (x70 + 1))) else (none)) else (none)) else (if x15.size + bt474.1.size ≤ 9223372036854775807 then (bastionlaw11_QueryJoins.l0 k x2 x13 (x15 ++ bt474.1) x69 (wrap64 (x70 + 1))) else (none))) else (some false))) else (none)) else (none)) else (none)) else (some (x13.toList == x15.toList))
end
def bastionlaw11_QueryJoins.f (k : Nat) (a0 : ByteArray) (a1 : ByteArray) (l2 : List (S32)) : Option (Bool) := (bastionlaw11_lives.f k).bind fun t445 => (if t445 = true then ((query_Parse.f a0).bind fun bt446 => ((query_Parse.f a1).bind fun bt450 => (if a0.size + 1 ≤ 9223372036854775807 then (if (a0 ++ (⟨#[38]⟩ : ByteArray)).size + a1.size ≤ 9223372036854775807 then ((query_Parse.f ((a0 ++ (⟨#[38]⟩ : ByteArray)) ++ a1)).bind fun bt454 => (if bt446.2 = 0 then (if bt450.2 = 0 then (if bt454.2 = 0 then ((some (([] : List (S32)) : List (S32))).bind fun y458 => (if y458.length + bt446.1.length < 4398046511104 then ((some (y458 ++ bt446.1 : List (S32))).bind fun y461 => (if y461.length + bt450.1.length < 4398046511104 then ((bastionref11_Same.f k bt454.1 (y461 ++ bt450.1)).bind fun t467 => (bastionlaw11_QueryJoins.j0 k l2 (!t467))) else (none))) else (none))) else (bastionlaw11_QueryJoins.j0 k l2 false)) else (bastionlaw11_QueryJoins.j0 k l2 false)) else (bastionlaw11_QueryJoins.j0 k l2 false))) else (none)) else (none)))) else (some false))
set_option maxHeartbeats 8000000 in
set_option maxRecDepth 100000 in
theorem bastionlaw11_QueryJoins.calls (k : Nat) (a0 : ByteArray) (a1 : ByteArray) (A2 : Option Addr) (c2 : Nat) (l2 : List (S32)) (r : Bool) (w : World) (hr2 : Kd.C k32 w A2 l2.length l2) (hc2 : l2.length ≤ c2) (hT : UTabs w) (h : bastionlaw11_QueryJoins.f k a0 a1 l2 = some r) :
    Calls Tryd.prog 5 #[.string a0, .string a1, .slice A2 l2.length c2] w fun e w' => e = .returned (.bool r) ∧ Below w.heap.size w w' := by
  have HR2 := Aside0.mk hr2
  have HC2 := Aside0.mk hc2
  clear hr2 hc2
  have HB := Aside0.mk (Below.refl w.heap.size w)
  have HTB := Aside0.mk hT
  clear hT
  have H : ((bastionlaw11_lives.f k).bind fun t445 => (if t445 = true then ((query_Parse.f a0).bind fun bt446 => ((query_Parse.f a1).bind fun bt450 => (if a0.size + 1 ≤ 9223372036854775807 then (if (a0 ++ (⟨#[38]⟩ : ByteArray)).size + a1.size ≤ 9223372036854775807 then ((query_Parse.f ((a0 ++ (⟨#[38]⟩ : ByteArray)) ++ a1)).bind fun bt454 => (if bt446.2 = 0 then (if bt450.2 = 0 then (if bt454.2 = 0 then ((some (([] : List (S32)) : List (S32))).bind fun y458 => (if y458.length + bt446.1.length < 4398046511104 then ((some (y458 ++ bt446.1 : List (S32))).bind fun y461 => (if y461.length + bt450.1.length < 4398046511104 then ((bastionref11_Same.f k bt454.1 (y461 ++ bt450.1)).bind fun t467 => (bastionlaw11_QueryJoins.j0 k l2 (!t467))) else (none))) else (none))) else (bastionlaw11_QueryJoins.j0 k l2 false)) else (bastionlaw11_QueryJoins.j0 k l2 false)) else (bastionlaw11_QueryJoins.j0 k l2 false))) else (none)) else (none)))) else (some false))) = some r := h
  clear h
  replace H := Option.bind_eq_some_iff.mp H
  obtain ⟨t445, A40, H⟩ := H
  replace H : (if t445 = true then ((query_Parse.f a0).bind fun bt446 => ((query_Parse.f a1).bind fun bt450 => (if a0.size + 1 ≤ 9223372036854775807 then (if (a0 ++ (⟨#[38]⟩ : ByteArray)).size + a1.size ≤ 9223372036854775807 then ((query_Parse.f ((a0 ++ (⟨#[38]⟩ : ByteArray)) ++ a1)).bind fun bt454 => (if bt446.2 = 0 then (if bt450.2 = 0 then (if bt454.2 = 0 then ((some (([] : List (S32)) : List (S32))).bind fun y458 => (if y458.length + bt446.1.length < 4398046511104 then ((some (y458 ++ bt446.1 : List (S32))).bind fun y461 => (if y461.length + bt450.1.length < 4398046511104 then ((bastionref11_Same.f k bt454.1 (y461 ++ bt450.1)).bind fun t467 => (bastionlaw11_QueryJoins.j0 k l2 (!t467))) else (none))) else (none))) else (bastionlaw11_QueryJoins.j0 k l2 false)) else (bastionlaw11_QueryJoins.j0 k l2 false)) else (bastionlaw11_QueryJoins.j0 k l2 false))) else (none)) else (none)))) else (some false)) = some r := H
  have A4 := Aside0.mk A40
  clear A40
  by_cases c5 : t445 = true
  · subst c5
    have H1 : ((query_Parse.f a0).bind fun bt446 => ((query_Parse.f a1).bind fun bt450 => (if a0.size + 1 ≤ 9223372036854775807 then (if (a0 ++ (⟨#[38]⟩ : ByteArray)).size + a1.size ≤ 9223372036854775807 then ((query_Parse.f ((a0 ++ (⟨#[38]⟩ : ByteArray)) ++ a1)).bind fun bt454 => (if bt446.2 = 0 then (if bt450.2 = 0 then (if bt454.2 = 0 then ((some (([] : List (S32)) : List (S32))).bind fun y458 => (if y458.length + bt446.1.length < 4398046511104 then ((some (y458 ++ bt446.1 : List (S32))).bind fun y461 => (if y461.length + bt450.1.length < 4398046511104 then ((bastionref11_Same.f k bt454.1 (y461 ++ bt450.1)).bind fun t467 => (bastionlaw11_QueryJoins.j0 k l2 (!t467))) else (none))) else (none))) else (bastionlaw11_QueryJoins.j0 k l2 false)) else (bastionlaw11_QueryJoins.j0 k l2 false)) else (bastionlaw11_QueryJoins.j0 k l2 false))) else (none)) else (none)))) = some r := by rw [if_pos rfl] at H; exact H
    clear H
    have H := H1
    clear H1
    replace H := Option.bind_eq_some_iff.mp H
    obtain ⟨⟨t446, t447⟩, A60, H⟩ := H
    replace H : ((query_Parse.f a1).bind fun bt450 => (if a0.size + 1 ≤ 9223372036854775807 then (if (a0 ++ (⟨#[38]⟩ : ByteArray)).size + a1.size ≤ 9223372036854775807 then ((query_Parse.f ((a0 ++ (⟨#[38]⟩ : ByteArray)) ++ a1)).bind fun bt454 => (if t447 = 0 then (if bt450.2 = 0 then (if bt454.2 = 0 then ((some (([] : List (S32)) : List (S32))).bind fun y458 => (if y458.length + t446.length < 4398046511104 then ((some (y458 ++ t446 : List (S32))).bind fun y461 => (if y461.length + bt450.1.length < 4398046511104 then ((bastionref11_Same.f k bt454.1 (y461 ++ bt450.1)).bind fun t467 => (bastionlaw11_QueryJoins.j0 k l2 (!t467))) else (none))) else (none))) else (bastionlaw11_QueryJoins.j0 k l2 false)) else (bastionlaw11_QueryJoins.j0 k l2 false)) else (bastionlaw11_QueryJoins.j0 k l2 false))) else (none)) else (none))) = some r := H
    have A6 := Aside0.mk A60
    clear A60
    replace H := Option.bind_eq_some_iff.mp H
    obtain ⟨⟨t450, t451⟩, A70, H⟩ := H
    replace H : (if a0.size + 1 ≤ 9223372036854775807 then (if (a0 ++ (⟨#[38]⟩ : ByteArray)).size + a1.size ≤ 9223372036854775807 then ((query_Parse.f ((a0 ++ (⟨#[38]⟩ : ByteArray)) ++ a1)).bind fun bt454 => (if t447 = 0 then (if t451 = 0 then (if bt454.2 = 0 then ((some (([] : List (S32)) : List (S32))).bind fun y458 => (if y458.length + t446.length < 4398046511104 then ((some (y458 ++ t446 : List (S32))).bind fun y461 => (if y461.length + t450.length < 4398046511104 then ((bastionref11_Same.f k bt454.1 (y461 ++ t450)).bind fun t467 => (bastionlaw11_QueryJoins.j0 k l2 (!t467))) else (none))) else (none))) else (bastionlaw11_QueryJoins.j0 k l2 false)) else (bastionlaw11_QueryJoins.j0 k l2 false)) else (bastionlaw11_QueryJoins.j0 k l2 false))) else (none)) else (none)) = some r := H
    have A7 := Aside0.mk A70
    clear A70
    by_cases c8 : a0.size + 1 ≤ 9223372036854775807
    · rw [if_pos c8] at H
      have c8b0 := eq_true c8
      have c8b1 : decide (a0.size + 1 ≤ 9223372036854775807) = true := decide_eq_true c8
      try have c8b2 : (9223372036854775807 < a0.size + 1) = False := eq_false (Nat.not_lt.2 c8)
      by_cases c9 : (a0 ++ (⟨#[38]⟩ : ByteArray)).size + a1.size ≤ 9223372036854775807
      · rw [if_pos c9] at H
        have c9b0 := eq_true c9
        have c9b1 : decide ((a0 ++ (⟨#[38]⟩ : ByteArray)).size + a1.size ≤ 9223372036854775807) = true := decide_eq_true c9
        try have c9b2 : (9223372036854775807 < (a0 ++ (⟨#[38]⟩ : ByteArray)).size + a1.size) = False := eq_false (Nat.not_lt.2 c9)
        replace H := Option.bind_eq_some_iff.mp H
        obtain ⟨⟨t454, t455⟩, A100, H⟩ := H
        replace H : (if t447 = 0 then (if t451 = 0 then (if t455 = 0 then ((some (([] : List (S32)) : List (S32))).bind fun y458 => (if y458.length + t446.length < 4398046511104 then ((some (y458 ++ t446 : List (S32))).bind fun y461 => (if y461.length + t450.length < 4398046511104 then ((bastionref11_Same.f k t454 (y461 ++ t450)).bind fun t467 => (bastionlaw11_QueryJoins.j0 k l2 (!t467))) else (none))) else (none))) else (bastionlaw11_QueryJoins.j0 k l2 false)) else (bastionlaw11_QueryJoins.j0 k l2 false)) else (bastionlaw11_QueryJoins.j0 k l2 false)) = some r := H
        have A10 := Aside0.mk A100
        clear A100
        have HC11 := Aside0.mk H
        clear H
        go_enter Tryd.func5, Tryd.ntmps5
        go_upto_region 6 with (first | ((with_reducible refine gate_callee (f := 13) rfl ?_); refine goesL_ (some 19) rfl rfl Tryd.func13 (by kernel_rfl) rfl #[] rfl (by (try simp only [List.map_toArray, List.map_cons, List.map_nil]); first | done | rfl | (simp only [List.length_drop, List.length_take]; rfl)) ?_; (with_reducible refine (bastionlaw11_lives.calls k  true _ ?side1 A4.out).mono ?_); (case side1 => exact UTabs.below HTB.out (by repeat (first | (with_reducible first | exact HB.out | apply below_alloc | apply pw_below_drewN | apply below_drew1) | exact HB.out))); rintro e w12 ⟨rfl, hb⟩; refine ⟨_, rfl, ?_⟩; have n0_ := Aside0.mk (below_step (by repeat (first | (with_reducible first | exact HB.out | apply below_alloc | apply pw_below_drewN | apply below_drew1) | exact HB.out)) hb); clear HB; have HB := n0_; clear n0_; (try clear hb); (try clear hb2); (try clear hk); (try clear hi)) | ((with_reducible refine gate_callee (f := 11) rfl ?_); refine goesL_ (some 23) rfl rfl Tryd.func11 (by kernel_rfl) rfl #[.string a0] rfl (by (try simp only [List.map_toArray, List.map_cons, List.map_nil]); first | done | rfl | (simp only [List.length_drop, List.length_take]; rfl)) ?_; (with_reducible refine (query_Parse.calls a0 t446 t447 _ ?side1 A6.out).mono ?_); (case side1 => exact UTabs.below HTB.out (by repeat (first | (with_reducible first | exact HB.out | apply below_alloc | apply pw_below_drewN | apply below_drew1) | exact HB.out))); rintro e w13 ⟨v448, rfl, ho0, hb⟩; refine ⟨_, rfl, ?_⟩; have n0_ := Aside0.mk (Kd.R_lower ho0 (below_size (by repeat (first | (with_reducible first | exact HB.out | apply below_alloc | apply pw_below_drewN | apply below_drew1) | exact HB.out)))); have n1_ := Aside0.mk (below_step (by repeat (first | (with_reducible first | exact HB.out | apply below_alloc | apply pw_below_drewN | apply below_drew1) | exact HB.out)) hb); clear HB; have HO449 := n0_; have HB := n1_; clear n0_ n1_; (try clear hb); (try clear hb2); (try clear hk); (try clear hi); (try clear ho0)) | ((with_reducible refine gate_callee (f := 11) rfl ?_); refine goesL_ (some 28) rfl rfl Tryd.func11 (by kernel_rfl) rfl #[.string a1] rfl (by (try simp only [List.map_toArray, List.map_cons, List.map_nil]); first | done | rfl | (simp only [List.length_drop, List.length_take]; rfl)) ?_; (with_reducible refine (query_Parse.calls a1 t450 t451 _ ?side1 A7.out).mono ?_); (case side1 => exact UTabs.below HTB.out (by repeat (first | (with_reducible first | exact HB.out | apply below_alloc | apply pw_below_drewN | apply below_drew1) | exact HB.out))); rintro e w14 ⟨v452, rfl, ho0, hb⟩; refine ⟨_, rfl, ?_⟩; have n0_ := Aside0.mk (Kd.R_elder' (by (with_reducible repeat (first | apply Kd.R_alloc | apply Kd.R_drewN | apply Kd.R_drew)); exact HO449.out) (Kd.R_base ho0) hb); have n1_ := Aside0.mk (Kd.R_lower (Kd.R_new' ho0 (Kd.R_lt (by (with_reducible repeat (first | apply Kd.R_alloc | apply Kd.R_drewN | apply Kd.R_drew)); exact HO449.out))) (below_size (by repeat (first | (with_reducible first | exact HB.out | apply below_alloc | apply pw_below_drewN | apply below_drew1) | exact HB.out)))); have n2_ := Aside0.mk (below_step (by repeat (first | (with_reducible first | exact HB.out | apply below_alloc | apply pw_below_drewN | apply below_drew1) | exact HB.out)) hb); clear HO449; clear HB; have HO449 := n0_; have HO453 := n1_; have HB := n2_; clear n0_ n1_ n2_; (try clear hb); (try clear hb2); (try clear hk); (try clear hi); (try clear ho0)) | ((with_reducible refine gate_callee (f := 11) rfl ?_); refine goesL_ (some 36) rfl rfl Tryd.func11 (by kernel_rfl) rfl #[.string ((a0 ++ (⟨#[38]⟩ : ByteArray)) ++ a1)] rfl (by (try simp only [List.map_toArray, List.map_cons, List.map_nil]); first | done | rfl | (simp only [List.length_drop, List.length_take]; rfl)) ?_; (with_reducible refine (query_Parse.calls ((a0 ++ (⟨#[38]⟩ : ByteArray)) ++ a1) t454 t455 _ ?side1 A10.out).mono ?_); (case side1 => exact UTabs.below HTB.out (by repeat (first | (with_reducible first | exact HB.out | apply below_alloc | apply pw_below_drewN | apply below_drew1) | exact HB.out))); rintro e w15 ⟨v456, rfl, ho0, hb⟩; refine ⟨_, rfl, ?_⟩; have n0_ := Aside0.mk (Kd.R_elder' (by (with_reducible repeat (first | apply Kd.R_alloc | apply Kd.R_drewN | apply Kd.R_drew)); exact HO449.out) (Kd.R_base ho0) hb); have n1_ := Aside0.mk (Kd.R_elder' (by (with_reducible repeat (first | apply Kd.R_alloc | apply Kd.R_drewN | apply Kd.R_drew)); exact HO453.out) (Kd.R_base ho0) hb); have n2_ := Aside0.mk (Kd.R_lower (Kd.R_new' (Kd.R_new' ho0 (Kd.R_lt (by (with_reducible repeat (first | apply Kd.R_alloc | apply Kd.R_drewN | apply Kd.R_drew)); exact HO449.out))) (Kd.R_lt (by (with_reducible repeat (first | apply Kd.R_alloc | apply Kd.R_drewN | apply Kd.R_drew)); exact HO453.out))) (below_size (by repeat (first | (with_reducible first | exact HB.out | apply below_alloc | apply pw_below_drewN | apply below_drew1) | exact HB.out)))); have n3_ := Aside0.mk (below_step (by repeat (first | (with_reducible first | exact HB.out | apply below_alloc | apply pw_below_drewN | apply below_drew1) | exact HB.out)) hb); clear HO449; clear HO453; clear HB; have HO449 := n0_; have HO453 := n1_; have HO457 := n2_; have HB := n3_; clear n0_ n1_ n2_ n3_; (try clear hb); (try clear hb2); (try clear hk); (try clear hi); (try clear ho0)))
        (try simp only [Act.put, List.setIfInBounds_toArray, List.set_cons_zero, List.set_cons_succ])
        go_cut [58] (fun v58 wc => ∃ (kq : Nat) (x58_10 : Bool), v58 = .bool x58_10 ∧ Aside0 (bastionlaw11_QueryJoins.j0 kq l2 x58_10 = some r) ∧ Aside0 (kq ≤ k) ∧ Aside0 (Below w.heap.size w wc))
        case first =>
          have H := HC11.out
          clear HC11
          by_cases c16 : t447 = 0
          · rw [if_pos c16] at H
            have c16b0 : (t447 == 0) = true := beq_iff_eq.mpr c16
            have c16b1 : (t447 != 0) = false := bne_eq_false_iff_eq.mpr c16
            clear c16
            (first | rw [c16b0] | (simp only [i64_w, i32_w]; rw [c16b0]) | skip)
            by_cases c17 : t451 = 0
            · rw [if_pos c17] at H
              have c17b0 : (t451 == 0) = true := beq_iff_eq.mpr c17
              have c17b1 : (t451 != 0) = false := bne_eq_false_iff_eq.mpr c17
              clear c17
              by_cases c18 : t455 = 0
              · rw [if_pos c18] at H
                have c18b0 : (t455 == 0) = true := beq_iff_eq.mpr c18
                have c18b1 : (t455 != 0) = false := bne_eq_false_iff_eq.mpr c18
                clear c18
                obtain ⟨y458, hy458⟩ : ∃ y_ : List (S32), y_ = (([] : List (S32))) := ⟨_, rfl⟩
                replace H : (if y458.length + t446.length < 4398046511104 then ((some (y458 ++ t446 : List (S32))).bind fun y461 => (if y461.length + t450.length < 4398046511104 then ((bastionref11_Same.f k t454 (y461 ++ t450)).bind fun t467 => (bastionlaw11_QueryJoins.j0 k l2 (!t467))) else (none))) else (none)) = some r := by first | (rw [hy458]; with_reducible exact H) | (have H2_ := (Option.bind_some _ _).symm.trans H; rw [hy458]; with_reducible exact H2_) | (have H2_ := (Option.bind_some _ _).symm.trans H; with_reducible exact H2_) | with_reducible exact H | (rw [hy458]; exact H) | exact H
                have Ny458 := Aside0.mk hy458
                clear hy458
                by_cases c19 : y458.length + t446.length < 4398046511104
                · rw [if_pos c19] at H
                  have LMc19 := Aside0.mk c19
                  clear c19
                  obtain ⟨y461, hy461⟩ : ∃ y_ : List (S32), y_ = (y458 ++ t446) := ⟨_, rfl⟩
                  replace H : (if y461.length + t450.length < 4398046511104 then ((bastionref11_Same.f k t454 (y461 ++ t450)).bind fun t467 => (bastionlaw11_QueryJoins.j0 k l2 (!t467))) else (none)) = some r := by first | (rw [hy461]; with_reducible exact H) | (have H2_ := (Option.bind_some _ _).symm.trans H; rw [hy461]; with_reducible exact H2_) | (have H2_ := (Option.bind_some _ _).symm.trans H; with_reducible exact H2_) | with_reducible exact H | (rw [hy461]; exact H) | exact H
                  have Ny461 := Aside0.mk hy461
                  clear hy461
                  by_cases c20 : y461.length + t450.length < 4398046511104
                  · rw [if_pos c20] at H
                    have LMc20 := Aside0.mk c20
                    clear c20
                    obtain ⟨y464, hy464⟩ : ∃ y_ : List (S32), y_ = (y461 ++ t450) := ⟨_, rfl⟩
                    replace H : ((bastionref11_Same.f k t454 y464).bind fun t467 => (bastionlaw11_QueryJoins.j0 k l2 (!t467))) = some r := by first | (rw [hy464]; with_reducible exact H) | (have H2_ := (Option.bind_some _ _).symm.trans H; rw [hy464]; with_reducible exact H2_) | (have H2_ := (Option.bind_some _ _).symm.trans H; with_reducible exact H2_) | with_reducible exact H | (rw [hy464]; exact H) | exact H
                    have Ny464 := Aside0.mk hy464
                    clear hy464
                    replace H := Option.bind_eq_some_iff.mp H
                    obtain ⟨t467, A210, H⟩ := H
                    replace H : (bastionlaw11_QueryJoins.j0 k l2 (!t467)) = some r := H
                    have A21 := Aside0.mk A210
                    clear A210
                    have H' := Aside0.mk H
                    clear H
                    go_wp2_with (first | ((with_reducible refine gate_dst (N := 51) rfl ?_); (try (refine gate_guard (by rfl) ?_; dsimp only)); refine Kd.R_lit k32 _ 32 ?hg (N := 51) ?hd (xs := ([] : List (S32))) (inner := []) (ok := fun _ => True) (okp := fun _ => True) ?hr ?hp (fun _ hk => hk) trivial (Below.refl _ _) (Nat.le_refl _) (by simp) ?_; (case hd => rfl); (case hg => rfl); (case hr => first | (go_simp; done) | (go_simp; rfl)); (case hp => exact (Reps.none _ _)); intro v459 w22 ho23 hb hg_ hnew_; clear hg_ hnew_; (first | rw [← Ny458.out] at ho23 | (simp only [Int.reduceToNat] at ho23; rw [← Ny458.out] at ho23)); have n0_ := Aside0.mk (Kd.R_elder' (by (with_reducible repeat (first | apply Kd.R_alloc | apply Kd.R_drewN | apply Kd.R_drew)); exact HO449.out) (Kd.R_base ho23) hb); have n1_ := Aside0.mk (Kd.R_elder' (by (with_reducible repeat (first | apply Kd.R_alloc | apply Kd.R_drewN | apply Kd.R_drew)); exact HO453.out) (Kd.R_base ho23) hb); have n2_ := Aside0.mk (Kd.R_elder' (by (with_reducible repeat (first | apply Kd.R_alloc | apply Kd.R_drewN | apply Kd.R_drew)); exact HO457.out) (Kd.R_base ho23) hb); have n3_ := Aside0.mk (Kd.R_lower (Kd.R_new' (Kd.R_new' (Kd.R_new' ho23 (Kd.R_lt (by (with_reducible repeat (first | apply Kd.R_alloc | apply Kd.R_drewN | apply Kd.R_drew)); exact HO449.out))) (Kd.R_lt (by (with_reducible repeat (first | apply Kd.R_alloc | apply Kd.R_drewN | apply Kd.R_drew)); exact HO453.out))) (Kd.R_lt (by (with_reducible repeat (first | apply Kd.R_alloc | apply Kd.R_drewN | apply Kd.R_drew)); exact HO457.out))) (below_size (by repeat (first | (with_reducible first | exact HB.out | apply below_alloc | apply pw_below_drewN | apply below_drew1) | exact HB.out)))); have n4_ := Aside0.mk (below_step (by repeat (first | (with_reducible first | exact HB.out | apply below_alloc | apply pw_below_drewN | apply below_drew1) | exact HB.out)) hb); clear HO449; clear HO453; clear HO457; clear HB; have HO449 := n0_; have HO453 := n1_; have HO457 := n2_; have HO460 := n3_; have HB := n4_; clear n0_ n1_ n2_ n3_ n4_; clear hb ho23; obtain ⟨Ao25, co25, eo25⟩ := Kd.R_slice HO449.out; subst eo25) | ((with_reducible refine gate_builtin (b := .append) (xs := #[.tmp 51, .tmp 52]) rfl ?_); (try (refine gate_guard (by rfl) ?_; dsimp only)); at_builtin; refine Kd.R_append_rows k32 (w0 := w) w.heap.size rfl (.tmp 51) (.tmp 52) 22 32 (.agg #[(.string ⟨#[]⟩), (.string ⟨#[]⟩)]) 32 rfl Tryd.underlying22 info32 rfl (by decide) (by omega) v459 y458 t446 _ _ _ (fun k_ => some k_ ≠ (.slice Ao25 t446.length co25 : Value).ownBlock ∧ some k_ ≠ (v452 : Value).ownBlock ∧ some k_ ≠ (v456 : Value).ownBlock) (fun _ => False) rfl rfl ?aO ?aR (fun _ _ h => h) (fun _ h => h.elim) ?aF ?aB ?aS ?aL ?_; (case aR => repeat (first | exact (Kd.R_reads' HO449.out).2.2 | (with_reducible refine Kd.C_alloc ?_ _) | (with_reducible refine Kd.C_drewN ?_ _) | (with_reducible refine Kd.C_drew ?_))); (case aB => exact (by repeat (first | (with_reducible first | exact HB.out | apply below_alloc | apply pw_below_drewN | apply below_drew1) | exact HB.out))); (case aF => exact (fun k_ hk => ⟨Kd.fresh' (Kd.R_lt (by (with_reducible repeat (first | apply Kd.R_alloc | apply Kd.R_drewN | apply Kd.R_drew)); exact HO449.out)) k_ hk, Kd.fresh' (Kd.R_lt (by (with_reducible repeat (first | apply Kd.R_alloc | apply Kd.R_drewN | apply Kd.R_drew)); exact HO453.out)) k_ hk, Kd.fresh' (Kd.R_lt (by (with_reducible repeat (first | apply Kd.R_alloc | apply Kd.R_drewN | apply Kd.R_drew)); exact HO457.out)) k_ hk⟩)); (case aO => exact (by (with_reducible repeat (first | apply Kd.R_alloc | apply Kd.R_drewN | apply Kd.R_drew)); exact Kd.R_mono HO460.out (fun _ hk => ⟨hk.1.1.2, ⟨hk.1.2, hk.2⟩⟩))); (case aS => exact (below_size (by repeat (first | (with_reducible first | exact HB.out | apply below_alloc | apply pw_below_drewN | apply below_drew1) | exact HB.out)))); (case aL => have := LMc19.out; omega); intro v462 w24 ho hb hg hat; rw [← Ny461.out] at ho; have n0_ := Aside0.mk (Kd.R_after (ok := (fun k_ => some k_ ≠ (v452 : Value).ownBlock ∧ some k_ ≠ (v456 : Value).ownBlock)) (by (with_reducible repeat (first | apply Kd.R_alloc | apply Kd.R_drewN | apply Kd.R_drew)); exact Kd.R_mono HO449.out (fun _ hk => ⟨⟨hk.1.1.2, hk.1.2⟩, hk.2⟩)) hg hat); have n1_ := Aside0.mk (Kd.R_after (ok := (fun k_ => some k_ ≠ (.slice Ao25 t446.length co25 : Value).ownBlock ∧ some k_ ≠ (v456 : Value).ownBlock)) (by (with_reducible repeat (first | apply Kd.R_alloc | apply Kd.R_drewN | apply Kd.R_drew)); exact Kd.R_mono HO453.out (fun _ hk => ⟨⟨hk.1.1.2, hk.1.2⟩, hk.2⟩)) hg hat); have n2_ := Aside0.mk (Kd.R_after (ok := (fun k_ => some k_ ≠ (.slice Ao25 t446.length co25 : Value).ownBlock ∧ some k_ ≠ (v452 : Value).ownBlock)) (by (with_reducible repeat (first | apply Kd.R_alloc | apply Kd.R_drewN | apply Kd.R_drew)); exact Kd.R_mono HO457.out (fun _ hk => ⟨⟨hk.1.1.2, hk.1.2⟩, hk.2⟩)) hg hat); have n3_ := Aside0.mk (hb); have n4_ := Aside0.mk (ho); clear HO449; clear HO453; clear HO457; clear HB; clear HO460; have HO449 := n0_; have HO453 := n1_; have HO457 := n2_; have HB := n3_; have HO463 := n4_; clear n0_ n1_ n2_ n3_ n4_; clear ho hb hg hat; obtain ⟨Ao27, co27, eo27⟩ := Kd.R_slice HO453.out; subst eo27) | ((with_reducible refine gate_builtin (b := .append) (xs := #[.tmp 53, .tmp 54]) rfl ?_); (try (refine gate_guard (by rfl) ?_; dsimp only)); at_builtin; refine Kd.R_append_rows k32 (w0 := w) w.heap.size rfl (.tmp 53) (.tmp 54) 22 32 (.agg #[(.string ⟨#[]⟩), (.string ⟨#[]⟩)]) 32 rfl Tryd.underlying22 info32 rfl (by decide) (by omega) v462 y461 t450 _ _ _ (fun k_ => some k_ ≠ (.slice Ao25 t446.length co25 : Value).ownBlock ∧ some k_ ≠ (.slice Ao27 t450.length co27 : Value).ownBlock ∧ some k_ ≠ (v456 : Value).ownBlock) (fun _ => False) rfl rfl ?aO ?aR (fun _ _ h => h) (fun _ h => h.elim) ?aF ?aB ?aS ?aL ?_; (case aR => repeat (first | exact (Kd.R_reads' HO453.out).2.2 | (with_reducible refine Kd.C_alloc ?_ _) | (with_reducible refine Kd.C_drewN ?_ _) | (with_reducible refine Kd.C_drew ?_))); (case aB => exact (by repeat (first | (with_reducible first | exact HB.out | apply below_alloc | apply pw_below_drewN | apply below_drew1) | exact HB.out))); (case aF => exact (fun k_ hk => ⟨Kd.fresh' (Kd.R_lt (by (with_reducible repeat (first | apply Kd.R_alloc | apply Kd.R_drewN | apply Kd.R_drew)); exact HO449.out)) k_ hk, Kd.fresh' (Kd.R_lt (by (with_reducible repeat (first | apply Kd.R_alloc | apply Kd.R_drewN | apply Kd.R_drew)); exact HO453.out)) k_ hk, Kd.fresh' (Kd.R_lt (by (with_reducible repeat (first | apply Kd.R_alloc | apply Kd.R_drewN | apply Kd.R_drew)); exact HO457.out)) k_ hk⟩)); (case aO => exact (by (with_reducible repeat (first | apply Kd.R_alloc | apply Kd.R_drewN | apply Kd.R_drew)); exact HO463.out)); (case aS => exact (below_size (by repeat (first | (with_reducible first | exact HB.out | apply below_alloc | apply pw_below_drewN | apply below_drew1) | exact HB.out)))); (case aL => have := LMc20.out; omega); intro v465 w26 ho hb hg hat; rw [← Ny464.out] at ho; have n0_ := Aside0.mk (Kd.R_after (ok := (fun k_ => some k_ ≠ (.slice Ao27 t450.length co27 : Value).ownBlock ∧ some k_ ≠ (v456 : Value).ownBlock)) (by (with_reducible repeat (first | apply Kd.R_alloc | apply Kd.R_drewN | apply Kd.R_drew)); exact HO449.out) hg hat); have n1_ := Aside0.mk (Kd.R_after (ok := (fun k_ => some k_ ≠ (.slice Ao25 t446.length co25 : Value).ownBlock ∧ some k_ ≠ (v456 : Value).ownBlock)) (by (with_reducible repeat (first | apply Kd.R_alloc | apply Kd.R_drewN | apply Kd.R_drew)); exact HO453.out) hg hat); have n2_ := Aside0.mk (Kd.R_after (ok := (fun k_ => some k_ ≠ (.slice Ao25 t446.length co25 : Value).ownBlock ∧ some k_ ≠ (.slice Ao27 t450.length co27 : Value).ownBlock)) (by (with_reducible repeat (first | apply Kd.R_alloc | apply Kd.R_drewN | apply Kd.R_drew)); exact HO457.out) hg hat); have n3_ := Aside0.mk (hb); have n4_ := Aside0.mk (ho); clear HO449; clear HO453; clear HO457; clear HB; clear HO463; have HO449 := n0_; have HO453 := n1_; have HO457 := n2_; have HB := n3_; have HO466 := n4_; clear n0_ n1_ n2_ n3_ n4_; clear ho hb hg hat; obtain ⟨Ao28, co28, eo28⟩ := Kd.R_slice HO457.out; subst eo28; obtain ⟨Ao29, co29, eo29⟩ := Kd.R_slice HO466.out; subst eo29) | (go_at_call 14; (with_reducible refine (bastionref11_Same.calls k _ _ t454 _ _ y464 t467 _ ?side1 ?side2 ?side3 ?side4 A21.out).mono ?_); (case side1 => repeat (first | exact (Kd.R_reads' HO457.out).2.2 | (with_reducible refine Kd.C_alloc ?_ _) | (with_reducible refine Kd.C_drewN ?_ _) | (with_reducible refine Kd.C_drew ?_))); (case side2 => exact (Kd.R_reads' HO457.out).2.1); (case side3 => repeat (first | exact (Kd.R_reads' HO466.out).2.2 | (with_reducible refine Kd.C_alloc ?_ _) | (with_reducible refine Kd.C_drewN ?_ _) | (with_reducible refine Kd.C_drew ?_))); (case side4 => exact (Kd.R_reads' HO466.out).2.1); rintro e w' ⟨rfl, ⟨nd, rfl⟩⟩))
                    go_meet
                    case rel => exact ⟨_, (!t467), (by first | rfl | (simp; done) | (simp [*]; done)), H', ⟨by first | omega | exact Nat.le_refl _⟩, ⟨by repeat (first | (with_reducible first | exact HB.out | apply below_alloc | apply pw_below_drewN | apply below_drew1) | exact HB.out)⟩⟩
                  · rw [if_neg c20] at H
                    exact absurd H (by simp)
                · rw [if_neg c19] at H
                  exact absurd H (by simp)
              · rw [if_neg c18] at H
                have c18b0 : (t455 == 0) = false := beq_eq_false_iff_ne.mpr c18
                have c18b1 : (t455 != 0) = true := bne_iff_ne.mpr c18
                have H' := Aside0.mk H
                clear H
                go_wp2
                go_meet
                case rel => exact ⟨_, (false), (by first | rfl | (simp; done) | (simp [*]; done)), H', ⟨by first | omega | exact Nat.le_refl _⟩, ⟨by repeat (first | (with_reducible first | exact HB.out | apply below_alloc | apply pw_below_drewN | apply below_drew1) | exact HB.out)⟩⟩
            · rw [if_neg c17] at H
              have c17b0 : (t451 == 0) = false := beq_eq_false_iff_ne.mpr c17
              have c17b1 : (t451 != 0) = true := bne_iff_ne.mpr c17
              have H' := Aside0.mk H
              clear H
              go_wp2
              go_meet
              case rel => exact ⟨_, (false), (by first | rfl | (simp; done) | (simp [*]; done)), H', ⟨by first | omega | exact Nat.le_refl _⟩, ⟨by repeat (first | (with_reducible first | exact HB.out | apply below_alloc | apply pw_below_drewN | apply below_drew1) | exact HB.out)⟩⟩
          · rw [if_neg c16] at H
            have c16b0 : (t447 == 0) = false := beq_eq_false_iff_ne.mpr c16
            have c16b1 : (t447 != 0) = true := bne_iff_ne.mpr c16
            (first | rw [c16b0] | (simp only [i64_w, i32_w]; rw [c16b0]) | skip)
            have H' := Aside0.mk H
            clear H
            go_wp2
            go_meet
            case rel => exact ⟨_, (false), (by first | rfl | (simp; done) | (simp [*]; done)), H', ⟨by first | omega | exact Nat.le_refl _⟩, ⟨by repeat (first | (with_reducible first | exact HB.out | apply below_alloc | apply pw_below_drewN | apply below_drew1) | exact HB.out)⟩⟩
        case rest =>
          clear HC11
          try clear c1
          try clear c2
          try clear p2
          try clear c5
          try clear c8
          try clear c8b0
          try clear c8b1
          try clear c8b2
          try clear c9
          try clear c9b0
          try clear c9b1
          try clear c9b2
          try clear c11
          try clear c13
          try clear c16
          try clear c16b0
          try clear c16b1
          try clear c17
          try clear c17b0
          try clear c17b1
          try clear c18
          try clear c18b0
          try clear c18b1
          try clear c19
          try clear c20
          obtain ⟨kq, x58_10, rfl, HA, HJ10, HB⟩ := hcut
          cases kq with
          | zero => exact absurd HA.out (by simp [bastionlaw11_QueryJoins.j0])
          | succ kj10 =>
            have H := HA.out
            clear HA
            simp only [bastionlaw11_QueryJoins.j0] at H
            by_cases c30 : x58_10 = true
            · subst c30
              have H1 : (some false) = some r := by rw [if_pos rfl] at H; exact H
              clear H
              have H := H1
              clear H1
              obtain rfl := Option.some.inj H
              go_wp2
              go_ret
              exact ⟨by first | rfl | (simp [errW_none, errW_some] <;> rfl) | (simp [*, errW_none, errW_some] <;> rfl), by repeat (first | (with_reducible first | exact HB.out | apply below_alloc | apply pw_below_drewN | apply below_drew1) | exact HB.out)⟩
            · replace c30 := Bool.eq_false_iff.mpr c30
              subst c30
              have H1 : ((query_Print.f l2).bind fun bt468 => (if bt468.2 = 0 then (bastionlaw11_QueryJoins.l0 kj10 l2 bt468.1 (⟨#[]⟩ : ByteArray) (l2.length : Int) 0) else (some (bt468.1.toList == ([] : List UInt8))))) = some r := by rw [if_neg (show ¬ (false = true) by decide)] at H; exact H
              clear H
              have H := H1
              clear H1
              replace H := Option.bind_eq_some_iff.mp H
              obtain ⟨⟨t468, t469⟩, A310, H⟩ := H
              replace H : (if t469 = 0 then (bastionlaw11_QueryJoins.l0 kj10 l2 t468 (⟨#[]⟩ : ByteArray) (l2.length : Int) 0) else (some (t468.toList == ([] : List UInt8)))) = some r := H
              have A31 := Aside0.mk A310
              clear A310
              by_cases c32 : t469 = 0
              · rw [if_pos c32] at H
                have c32b0 : (t469 == 0) = true := beq_iff_eq.mpr c32
                have c32b1 : (t469 != 0) = false := bne_eq_false_iff_eq.mpr c32
                clear c32
                have H' := Aside0.mk H
                clear H
                go_wp2_with (first | ((with_reducible refine gate_callee (f := 9) rfl ?_); refine goesL_ (some 61) rfl rfl Tryd.func9 (by kernel_rfl) rfl #[.slice A2 l2.length c2] rfl (by (try simp only [List.map_toArray, List.map_cons, List.map_nil]); first | done | rfl | (simp only [List.length_drop, List.length_take]; rfl)) ?_; (with_reducible refine (query_Print.calls _ _ l2 t468 t469 _ ?side1 ?side2 ?side3 A31.out).mono ?_); (case side1 => repeat (first | exact (Kd.C_below HR2.out HB.out) | (with_reducible refine Kd.C_alloc ?_ _) | (with_reducible refine Kd.C_drewN ?_ _) | (with_reducible refine Kd.C_drew ?_))); (case side2 => exact HC2.out); (case side3 => exact UTabs.below HTB.out (by repeat (first | (with_reducible first | exact HB.out | apply below_alloc | apply pw_below_drewN | apply below_drew1) | exact HB.out))); rintro e w33 ⟨rfl, hb⟩; refine ⟨_, rfl, ?_⟩; have n0_ := Aside0.mk (below_step (by repeat (first | (with_reducible first | exact HB.out | apply below_alloc | apply pw_below_drewN | apply below_drew1) | exact HB.out)) hb); clear HB; have HB := n0_; clear n0_; (try clear hb); (try clear hb2); (try clear hk); (try clear hi)))
                go_loopg [15, 70] kj10 (fun kq v15 v70 w' => ∃ (x15_2 : ByteArray) (x70_2 : Int), v15 = .string x15_2 ∧ v70 = .int .i64 x70_2 ∧ Aside0 (bastionlaw11_QueryJoins.l0 kq l2 t468 x15_2 (l2.length : Int) x70_2 = some r) ∧ Aside0 (kq ≤ kj10) ∧ Aside0 (Below w.heap.size w w'))
                case atStart => exact ⟨((⟨#[]⟩ : ByteArray)), (0), (by first | rfl | (simp; done) | (simp [*]; done)), (by first | rfl | (simp; done) | (simp [*]; done)), H', ⟨Nat.le_refl _⟩, ⟨by repeat (first | (with_reducible first | exact HB.out | apply below_alloc | apply pw_below_drewN | apply below_drew1) | exact HB.out)⟩⟩
                case round =>
                  clear H'
                  try clear c1
                  try clear c2
                  try clear p2
                  try clear c3
                  try clear c5
                  try clear c8
                  try clear c8b0
                  try clear c8b1
                  try clear c8b2
                  try clear c9
                  try clear c9b0
                  try clear c9b1
                  try clear c9b2
                  try clear c11
                  try clear c13
                  try clear c16
                  try clear c16b0
                  try clear c16b1
                  try clear c17
                  try clear c17b0
                  try clear c17b1
                  try clear c18
                  try clear c18b0
                  try clear c18b1
                  try clear c19
                  try clear c20
                  try clear c30
                  try clear c32
                  try clear c32b0
                  try clear c32b1
                  try clear p2
                  obtain ⟨x15_2, x70_2, rfl, rfl, HA, HK2, HB⟩ := hrel
                  cases gk with
                  | zero => exact absurd HA.out (by simp [bastionlaw11_QueryJoins.l0])
                  | succ k2 =>
                    have H := HA.out
                    clear HA
                    simp only [bastionlaw11_QueryJoins.l0] at H
                    by_cases c34 : x70_2 < (l2.length : Int)
                    · rw [if_pos c34] at H
                      have c34b0 : decide (x70_2 < (l2.length : Int)) = true := decide_eq_true c34
                      clear c34
                      by_cases c35 : 0 ≤ x70_2
                      · rw [if_pos c35] at H
                        have c35b0 := eq_true c35
                        have c35b1 : decide (0 ≤ x70_2) = true := decide_eq_true c35
                        clear c35
                        by_cases c36 : x70_2 ≤ (wrap64 (x70_2 + 1))
                        · rw [if_pos c36] at H
                          have c36b0 := eq_true c36
                          have c36b1 : decide (x70_2 ≤ (wrap64 (x70_2 + 1))) = true := decide_eq_true c36
                          by_cases c37 : (wrap64 (x70_2 + 1)) ≤ (l2.length : Int)
                          · rw [if_pos c37] at H
                            have c37b0 := eq_true c37
                            have c37b1 : decide ((wrap64 (x70_2 + 1)) ≤ (l2.length : Int)) = true := decide_eq_true c37
                            obtain ⟨y470, hy470⟩ : ∃ y_ : List (S32), y_ = ((l2.take ((wrap64 (x70_2 + 1)) : Int).toNat).drop (x70_2 : Int).toNat) := ⟨_, rfl⟩
                            replace H : ((query_Print.f y470).bind fun bt474 => (if bt474.2 = 0 then (if x70_2 > 0 then (if x15_2.size + 1 ≤ 9223372036854775807 then (if (x15_2 ++ (⟨#[38]⟩ : ByteArray)).size + bt474.1.size ≤ 9223372036854775807 then (bastionlaw11_QueryJoins.l0 k2 l2 t468 ((x15_2 ++ (⟨#[38]⟩ : ByteArray)) ++ bt474.1) (l2.length : Int) (wrap64 (x70_2 + 1))) else (none)) else (none)) else (if x15_2.size + bt474.1.size ≤ 9223372036854775807 then (bastionlaw11_QueryJoins.l0 k2 l2 t468 (x15_2 ++ bt474.1) (l2.length : Int) (wrap64 (x70_2 + 1))) else (none))) else (some false))) = some r := by first | (rw [hy470]; with_reducible exact H) | (have H2_ := (Option.bind_some _ _).symm.trans H; rw [hy470]; with_reducible exact H2_) | (have H2_ := (Option.bind_some _ _).symm.trans H; with_reducible exact H2_) | with_reducible exact H | (rw [hy470]; exact H) | exact H
                            have Ny470 := Aside0.mk hy470
                            clear hy470
                            replace H := Option.bind_eq_some_iff.mp H
                            obtain ⟨⟨t474, t475⟩, A380, H⟩ := H
                            replace H : (if t475 = 0 then (if x70_2 > 0 then (if x15_2.size + 1 ≤ 9223372036854775807 then (if (x15_2 ++ (⟨#[38]⟩ : ByteArray)).size + t474.size ≤ 9223372036854775807 then (bastionlaw11_QueryJoins.l0 k2 l2 t468 ((x15_2 ++ (⟨#[38]⟩ : ByteArray)) ++ t474) (l2.length : Int) (wrap64 (x70_2 + 1))) else (none)) else (none)) else (if x15_2.size + t474.size ≤ 9223372036854775807 then (bastionlaw11_QueryJoins.l0 k2 l2 t468 (x15_2 ++ t474) (l2.length : Int) (wrap64 (x70_2 + 1))) else (none))) else (some false)) = some r := H
                            have A38 := Aside0.mk A380
                            clear A380
                            by_cases c39 : t475 = 0
                            · rw [if_pos c39] at H
                              have c39b0 : (t475 == 0) = true := beq_iff_eq.mpr c39
                              have c39b1 : (t475 != 0) = false := bne_eq_false_iff_eq.mpr c39
                              clear c39
                              by_cases c40 : x70_2 > 0
                              · rw [if_pos c40] at H
                                have c40b0 : decide (0 < x70_2) = true := decide_eq_true c40
                                clear c40
                                by_cases c41 : x15_2.size + 1 ≤ 9223372036854775807
                                · rw [if_pos c41] at H
                                  have c41b0 := eq_true c41
                                  have c41b1 : decide (x15_2.size + 1 ≤ 9223372036854775807) = true := decide_eq_true c41
                                  try have c41b2 : (9223372036854775807 < x15_2.size + 1) = False := eq_false (Nat.not_lt.2 c41)
                                  by_cases c42 : (x15_2 ++ (⟨#[38]⟩ : ByteArray)).size + t474.size ≤ 9223372036854775807
                                  · rw [if_pos c42] at H
                                    have c42b0 := eq_true c42
                                    have c42b1 : decide ((x15_2 ++ (⟨#[38]⟩ : ByteArray)).size + t474.size ≤ 9223372036854775807) = true := decide_eq_true c42
                                    try have c42b2 : (9223372036854775807 < (x15_2 ++ (⟨#[38]⟩ : ByteArray)).size + t474.size) = False := eq_false (Nat.not_lt.2 c42)
                                    have H' := Aside0.mk H
                                    clear H
                                    have q43 : ((wrap64 (x70_2 + 1)) : Int) ≤ ((l2.length : Int) : Int) := of_decide_eq_true (by first | (with_reducible assumption) | assumption)
                                    obtain ⟨i043, hi043, _, hsz43, _⟩ := info_parts info32
                                    have hroom43 : l2.length ≤ c2 := HC2.out
                                    have hC43 : Kd.C k32 _ A2 l2.length l2 := HR2.out
                                    have ql43 : (x70_2 : Int) ≤ ((wrap64 (x70_2 + 1)) : Int) := of_decide_eq_true (by first | (with_reducible assumption) | assumption)
                                    have q043 : (0 : Int) ≤ (x70_2 : Int) := of_decide_eq_true (by first | (with_reducible assumption) | assumption)
                                    have hcut43 := cut_mid (P := Tryd.prog) 22 32 .i64 .i64 Tryd.underlying22 hi043 2 hsz43 A2 l2.length c2 x70_2 (wrap64 (x70_2 + 1)) q043 ql43 q43 hroom43
                                    have hr43 := Kd.C_mid (lo := (x70_2 : Int).toNat) (hi := ((wrap64 (x70_2 + 1)) : Int).toNat) (c := c2) hC43 (by omega) (by omega) hroom43
                                    obtain ⟨A43, hA43⟩ : ∃ A1, A1 = (if c2 = (x70_2 : Int).toNat then A2 else (A2 : Option Addr).map (·.add ((x70_2 : Int).toNat * 2))) := ⟨_, rfl⟩
                                    obtain ⟨c43, hc43⟩ : ∃ c1, c1 = c2 - (x70_2 : Int).toNat := ⟨_, rfl⟩
                                    have hy43 : y470.length = ((wrap64 (x70_2 + 1)) : Int).toNat - (x70_2 : Int).toNat := (by rw [Ny470.out, List.length_drop, List.length_take] <;> omega)
                                    rw [show ((l2).take ((wrap64 (x70_2 + 1)) : Int).toNat).drop (x70_2 : Int).toNat = y470 from Ny470.out.symm] at hr43
                                    replace hr43 : Kd.C k32 _ A43 y470.length y470 := (by rw [hA43]; exact hr43)
                                    rw [← hy43, ← hA43, ← hc43] at hcut43
                                    have HR473 := Aside0.mk hr43
                                    have HC473 := Aside0.mk (show y470.length ≤ c43 from by rw [hy43, hc43]; exact Nat.sub_le_sub_right (Nat.le_trans (by omega) hroom43) _)
                                    clear hr43 hC43 hroom43 hi043 hsz43 hc43
                                    have KY43 := Aside0.mk hy43
                                    have KA43 := Aside0.mk hA43
                                    clear hy43 hA43
                                    replace q43 := eq_true q43
                                    go_wp2_with (first | ((with_reducible refine gate_callee (f := 9) rfl ?_); refine goesL_ (some 79) rfl rfl Tryd.func9 (by kernel_rfl) rfl #[.slice A43 y470.length c43] rfl (by (try simp only [List.map_toArray, List.map_cons, List.map_nil]); first | done | rfl | (simp only [List.length_drop, List.length_take]; rfl)) ?_; (with_reducible refine (query_Print.calls _ _ y470 t474 t475 _ ?side1 ?side2 ?side3 A38.out).mono ?_); (case side1 => repeat (first | exact (Kd.C_below HR473.out HB.out) | (with_reducible refine Kd.C_alloc ?_ _) | (with_reducible refine Kd.C_drewN ?_ _) | (with_reducible refine Kd.C_drew ?_))); (case side2 => exact HC473.out); (case side3 => exact UTabs.below HTB.out (by repeat (first | (with_reducible first | exact HB.out | apply below_alloc | apply pw_below_drewN | apply below_drew1) | exact HB.out))); rintro e w44 ⟨rfl, hb⟩; refine ⟨_, rfl, ?_⟩; have n0_ := Aside0.mk (below_step (by repeat (first | (with_reducible first | exact HB.out | apply below_alloc | apply pw_below_drewN | apply below_drew1) | exact HB.out)) hb); clear HB; have HB := n0_; clear n0_; (try clear hb); (try clear hb2); (try clear hk); (try clear hi)))
                                    go_roundg k2
                                    case measure => have := HJ10.out; have := HK2.out; omega
                                    case rel => exact ⟨((x15_2 ++ (⟨#[38]⟩ : ByteArray)) ++ t474), (wrap64 (x70_2 + 1)), (by first | rfl | (simp; done) | (simp [*]; done)), (by first | rfl | (simp; done) | (simp [*]; done)), H', ⟨by have := HJ10.out; have := HK2.out; omega⟩, ⟨by repeat (first | (with_reducible first | exact HB.out | apply below_alloc | apply pw_below_drewN | apply below_drew1) | exact HB.out)⟩⟩
                                  · rw [if_neg c42] at H
                                    exact absurd H (by simp)
                                · rw [if_neg c41] at H
                                  exact absurd H (by simp)
                              · rw [if_neg c40] at H
                                have c40b0 : decide (0 < x70_2) = false := decide_eq_false c40
                                clear c40
                                by_cases c45 : x15_2.size + t474.size ≤ 9223372036854775807
                                · rw [if_pos c45] at H
                                  have c45b0 := eq_true c45
                                  have c45b1 : decide (x15_2.size + t474.size ≤ 9223372036854775807) = true := decide_eq_true c45
                                  try have c45b2 : (9223372036854775807 < x15_2.size + t474.size) = False := eq_false (Nat.not_lt.2 c45)
                                  have H' := Aside0.mk H
                                  clear H
                                  have q46 : ((wrap64 (x70_2 + 1)) : Int) ≤ ((l2.length : Int) : Int) := of_decide_eq_true (by first | (with_reducible assumption) | assumption)
                                  obtain ⟨i046, hi046, _, hsz46, _⟩ := info_parts info32
                                  have hroom46 : l2.length ≤ c2 := HC2.out
                                  have hC46 : Kd.C k32 _ A2 l2.length l2 := HR2.out
                                  have ql46 : (x70_2 : Int) ≤ ((wrap64 (x70_2 + 1)) : Int) := of_decide_eq_true (by first | (with_reducible assumption) | assumption)
                                  have q046 : (0 : Int) ≤ (x70_2 : Int) := of_decide_eq_true (by first | (with_reducible assumption) | assumption)
                                  have hcut46 := cut_mid (P := Tryd.prog) 22 32 .i64 .i64 Tryd.underlying22 hi046 2 hsz46 A2 l2.length c2 x70_2 (wrap64 (x70_2 + 1)) q046 ql46 q46 hroom46
                                  have hr46 := Kd.C_mid (lo := (x70_2 : Int).toNat) (hi := ((wrap64 (x70_2 + 1)) : Int).toNat) (c := c2) hC46 (by omega) (by omega) hroom46
                                  obtain ⟨A46, hA46⟩ : ∃ A1, A1 = (if c2 = (x70_2 : Int).toNat then A2 else (A2 : Option Addr).map (·.add ((x70_2 : Int).toNat * 2))) := ⟨_, rfl⟩
                                  obtain ⟨c46, hc46⟩ : ∃ c1, c1 = c2 - (x70_2 : Int).toNat := ⟨_, rfl⟩
                                  have hy46 : y470.length = ((wrap64 (x70_2 + 1)) : Int).toNat - (x70_2 : Int).toNat := (by rw [Ny470.out, List.length_drop, List.length_take] <;> omega)
                                  rw [show ((l2).take ((wrap64 (x70_2 + 1)) : Int).toNat).drop (x70_2 : Int).toNat = y470 from Ny470.out.symm] at hr46
                                  replace hr46 : Kd.C k32 _ A46 y470.length y470 := (by rw [hA46]; exact hr46)
                                  rw [← hy46, ← hA46, ← hc46] at hcut46
                                  have HR473 := Aside0.mk hr46
                                  have HC473 := Aside0.mk (show y470.length ≤ c46 from by rw [hy46, hc46]; exact Nat.sub_le_sub_right (Nat.le_trans (by omega) hroom46) _)
                                  clear hr46 hC46 hroom46 hi046 hsz46 hc46
                                  have KY46 := Aside0.mk hy46
                                  have KA46 := Aside0.mk hA46
                                  clear hy46 hA46
                                  replace q46 := eq_true q46
                                  go_wp2_with (first | ((with_reducible refine gate_callee (f := 9) rfl ?_); refine goesL_ (some 79) rfl rfl Tryd.func9 (by kernel_rfl) rfl #[.slice A46 y470.length c46] rfl (by (try simp only [List.map_toArray, List.map_cons, List.map_nil]); first | done | rfl | (simp only [List.length_drop, List.length_take]; rfl)) ?_; (with_reducible refine (query_Print.calls _ _ y470 t474 t475 _ ?side1 ?side2 ?side3 A38.out).mono ?_); (case side1 => repeat (first | exact (Kd.C_below HR473.out HB.out) | (with_reducible refine Kd.C_alloc ?_ _) | (with_reducible refine Kd.C_drewN ?_ _) | (with_reducible refine Kd.C_drew ?_))); (case side2 => exact HC473.out); (case side3 => exact UTabs.below HTB.out (by repeat (first | (with_reducible first | exact HB.out | apply below_alloc | apply pw_below_drewN | apply below_drew1) | exact HB.out))); rintro e w47 ⟨rfl, hb⟩; refine ⟨_, rfl, ?_⟩; have n0_ := Aside0.mk (below_step (by repeat (first | (with_reducible first | exact HB.out | apply below_alloc | apply pw_below_drewN | apply below_drew1) | exact HB.out)) hb); clear HB; have HB := n0_; clear n0_; (try clear hb); (try clear hb2); (try clear hk); (try clear hi)))
                                  go_roundg k2
                                  case measure => have := HJ10.out; have := HK2.out; omega
                                  case rel => exact ⟨(x15_2 ++ t474), (wrap64 (x70_2 + 1)), (by first | rfl | (simp; done) | (simp [*]; done)), (by first | rfl | (simp; done) | (simp [*]; done)), H', ⟨by have := HJ10.out; have := HK2.out; omega⟩, ⟨by repeat (first | (with_reducible first | exact HB.out | apply below_alloc | apply pw_below_drewN | apply below_drew1) | exact HB.out)⟩⟩
                                · rw [if_neg c45] at H
                                  exact absurd H (by simp)
                            · rw [if_neg c39] at H
                              have c39b0 : (t475 == 0) = false := beq_eq_false_iff_ne.mpr c39
                              have c39b1 : (t475 != 0) = true := bne_iff_ne.mpr c39
                              obtain rfl := Option.some.inj H
                              have q48 : ((wrap64 (x70_2 + 1)) : Int) ≤ ((l2.length : Int) : Int) := of_decide_eq_true (by first | (with_reducible assumption) | assumption)
                              obtain ⟨i048, hi048, _, hsz48, _⟩ := info_parts info32
                              have hroom48 : l2.length ≤ c2 := HC2.out
                              have hC48 : Kd.C k32 _ A2 l2.length l2 := HR2.out
                              have ql48 : (x70_2 : Int) ≤ ((wrap64 (x70_2 + 1)) : Int) := of_decide_eq_true (by first | (with_reducible assumption) | assumption)
                              have q048 : (0 : Int) ≤ (x70_2 : Int) := of_decide_eq_true (by first | (with_reducible assumption) | assumption)
                              have hcut48 := cut_mid (P := Tryd.prog) 22 32 .i64 .i64 Tryd.underlying22 hi048 2 hsz48 A2 l2.length c2 x70_2 (wrap64 (x70_2 + 1)) q048 ql48 q48 hroom48
                              have hr48 := Kd.C_mid (lo := (x70_2 : Int).toNat) (hi := ((wrap64 (x70_2 + 1)) : Int).toNat) (c := c2) hC48 (by omega) (by omega) hroom48
                              obtain ⟨A48, hA48⟩ : ∃ A1, A1 = (if c2 = (x70_2 : Int).toNat then A2 else (A2 : Option Addr).map (·.add ((x70_2 : Int).toNat * 2))) := ⟨_, rfl⟩
                              obtain ⟨c48, hc48⟩ : ∃ c1, c1 = c2 - (x70_2 : Int).toNat := ⟨_, rfl⟩
                              have hy48 : y470.length = ((wrap64 (x70_2 + 1)) : Int).toNat - (x70_2 : Int).toNat := (by rw [Ny470.out, List.length_drop, List.length_take] <;> omega)
                              rw [show ((l2).take ((wrap64 (x70_2 + 1)) : Int).toNat).drop (x70_2 : Int).toNat = y470 from Ny470.out.symm] at hr48
                              replace hr48 : Kd.C k32 _ A48 y470.length y470 := (by rw [hA48]; exact hr48)
                              rw [← hy48, ← hA48, ← hc48] at hcut48
                              have HR473 := Aside0.mk hr48
                              have HC473 := Aside0.mk (show y470.length ≤ c48 from by rw [hy48, hc48]; exact Nat.sub_le_sub_right (Nat.le_trans (by omega) hroom48) _)
                              clear hr48 hC48 hroom48 hi048 hsz48 hc48
                              have KY48 := Aside0.mk hy48
                              have KA48 := Aside0.mk hA48
                              clear hy48 hA48
                              replace q48 := eq_true q48
                              go_wp2_with (first | ((with_reducible refine gate_callee (f := 9) rfl ?_); refine goesL_ (some 79) rfl rfl Tryd.func9 (by kernel_rfl) rfl #[.slice A48 y470.length c48] rfl (by (try simp only [List.map_toArray, List.map_cons, List.map_nil]); first | done | rfl | (simp only [List.length_drop, List.length_take]; rfl)) ?_; (with_reducible refine (query_Print.calls _ _ y470 t474 t475 _ ?side1 ?side2 ?side3 A38.out).mono ?_); (case side1 => repeat (first | exact (Kd.C_below HR473.out HB.out) | (with_reducible refine Kd.C_alloc ?_ _) | (with_reducible refine Kd.C_drewN ?_ _) | (with_reducible refine Kd.C_drew ?_))); (case side2 => exact HC473.out); (case side3 => exact UTabs.below HTB.out (by repeat (first | (with_reducible first | exact HB.out | apply below_alloc | apply pw_below_drewN | apply below_drew1) | exact HB.out))); rintro e w49 ⟨rfl, hb⟩; refine ⟨_, rfl, ?_⟩; have n0_ := Aside0.mk (below_step (by repeat (first | (with_reducible first | exact HB.out | apply below_alloc | apply pw_below_drewN | apply below_drew1) | exact HB.out)) hb); clear HB; have HB := n0_; clear n0_; (try clear hb); (try clear hb2); (try clear hk); (try clear hi)))
                              go_ret
                              exact ⟨by first | rfl | (simp [errW_none, errW_some] <;> rfl) | (simp [*, errW_none, errW_some] <;> rfl), by repeat (first | (with_reducible first | exact HB.out | apply below_alloc | apply pw_below_drewN | apply below_drew1) | exact HB.out)⟩
                          · rw [if_neg c37] at H
                            exact absurd H (by simp)
                        · rw [if_neg c36] at H
                          exact absurd H (by simp)
                      · rw [if_neg c35] at H
                        exact absurd H (by simp)
                    · rw [if_neg c34] at H
                      have c34b0 : decide (x70_2 < (l2.length : Int)) = false := decide_eq_false c34
                      clear c34
                      obtain rfl := Option.some.inj H
                      go_wp2
                      go_ret
                      exact ⟨by first | rfl | (simp [errW_none, errW_some] <;> rfl) | (simp [*, errW_none, errW_some] <;> rfl), by repeat (first | (with_reducible first | exact HB.out | apply below_alloc | apply pw_below_drewN | apply below_drew1) | exact HB.out)⟩
              · rw [if_neg c32] at H
                have c32b0 : (t469 == 0) = false := beq_eq_false_iff_ne.mpr c32
                have c32b1 : (t469 != 0) = true := bne_iff_ne.mpr c32
                obtain rfl := Option.some.inj H
                go_wp2_with (first | ((with_reducible refine gate_callee (f := 9) rfl ?_); refine goesL_ (some 61) rfl rfl Tryd.func9 (by kernel_rfl) rfl #[.slice A2 l2.length c2] rfl (by (try simp only [List.map_toArray, List.map_cons, List.map_nil]); first | done | rfl | (simp only [List.length_drop, List.length_take]; rfl)) ?_; (with_reducible refine (query_Print.calls _ _ l2 t468 t469 _ ?side1 ?side2 ?side3 A31.out).mono ?_); (case side1 => repeat (first | exact (Kd.C_below HR2.out HB.out) | (with_reducible refine Kd.C_alloc ?_ _) | (with_reducible refine Kd.C_drewN ?_ _) | (with_reducible refine Kd.C_drew ?_))); (case side2 => exact HC2.out); (case side3 => exact UTabs.below HTB.out (by repeat (first | (with_reducible first | exact HB.out | apply below_alloc | apply pw_below_drewN | apply below_drew1) | exact HB.out))); rintro e w50 ⟨rfl, hb⟩; refine ⟨_, rfl, ?_⟩; have n0_ := Aside0.mk (below_step (by repeat (first | (with_reducible first | exact HB.out | apply below_alloc | apply pw_below_drewN | apply below_drew1) | exact HB.out)) hb); clear HB; have HB := n0_; clear n0_; (try clear hb); (try clear hb2); (try clear hk); (try clear hi)))
                go_ret
                exact ⟨by first | rfl | (simp [errW_none, errW_some] <;> rfl) | (simp [*, errW_none, errW_some] <;> rfl), by repeat (first | (with_reducible first | exact HB.out | apply below_alloc | apply pw_below_drewN | apply below_drew1) | exact HB.out)⟩
      · rw [if_neg c9] at H
        exact absurd H (by simp)
    · rw [if_neg c8] at H
      exact absurd H (by simp)
  · replace c5 := Bool.eq_false_iff.mpr c5
    subst c5
    have H1 : (some false) = some r := by rw [if_neg (show ¬ (false = true) by decide)] at H; exact H
    clear H
    have H := H1
    clear H1
    obtain rfl := Option.some.inj H
    go_enter Tryd.func5, Tryd.ntmps5
    go_wp2_with (first | ((with_reducible refine gate_callee (f := 13) rfl ?_); refine goesL_ (some 19) rfl rfl Tryd.func13 (by kernel_rfl) rfl #[] rfl (by (try simp only [List.map_toArray, List.map_cons, List.map_nil]); first | done | rfl | (simp only [List.length_drop, List.length_take]; rfl)) ?_; (with_reducible refine (bastionlaw11_lives.calls k  false _ ?side1 A4.out).mono ?_); (case side1 => exact UTabs.below HTB.out (by repeat (first | (with_reducible first | exact HB.out | apply below_alloc | apply pw_below_drewN | apply below_drew1) | exact HB.out))); rintro e w51 ⟨rfl, hb⟩; refine ⟨_, rfl, ?_⟩; have n0_ := Aside0.mk (below_step (by repeat (first | (with_reducible first | exact HB.out | apply below_alloc | apply pw_below_drewN | apply below_drew1) | exact HB.out)) hb); clear HB; have HB := n0_; clear n0_; (try clear hb); (try clear hb2); (try clear hk); (try clear hi)))
    go_ret
    exact ⟨by first | rfl | (simp [errW_none, errW_some] <;> rfl) | (simp [*, errW_none, errW_some] <;> rfl), by repeat (first | (with_reducible first | exact HB.out | apply below_alloc | apply pw_below_drewN | apply below_drew1) | exact HB.out)⟩
end Go.Proofs.YtbcbmmlpgdndpaaDoor.Q
