/- Functions of the given program as plain Lean functions, each with the proof that the machine answers as it does; laid by a program of mine over the kit print. -/
import Derived.Test.YtiobcjgolmiabaaDoorQbase
import Derived.Test.YtiobcjgolmiabaaDoorQbastionlaw021
import Derived.Test.YtiobcjgolmiabaaDoorUDec
import Derived.Test.YtiobcjgolmiabaaDoorUVal
namespace Go.Proofs.YtiobcjgolmiabaaDoor.Q
open Go.RowKit Go.Proofs.YtiobcjgolmiabaaDoorW.PrintWords Go.Proofs.YtiobcjgolmiabaaDoorW.PrintLast Go.Proofs.YtiobcjgolmiabaaDoorW.PrintMore
attribute [local go_sem] max2_int min2_int max_two min_two max_three min_three max_four min_four
set_option linter.unusedVariables false
set_option linter.unusedSimpArgs false

/-! ### bastionlaw02_UtfLong: function 4 -/
mutual
def bastionlaw02_UtfLong.j0 : Nat → ByteArray → List Int → Bool → Option (Bool)
  | 0, _, _, _ => none
  | k + 1, x0, x3, x34 => if x34 = true then (some false) else (bastionlaw02_UtfLong.l0 k x0 x3 true 0)
def bastionlaw02_UtfLong.l0 : Nat → ByteArray → List Int → Bool → Int → Option (Bool)
  | 0, _, _, _, _ => none
  | k + 1, x0, x3, x4, x5 => if x5 < (x0.size : Int) then (if x4 = true then (if 0 ≤ x5 then (bastionlaw02_UtfLong.l0 k x0 x3 (decide ((bt x0 x5) < 128)) (wrap64 (x5 + 1))) else (none)) else (bastionlaw02_UtfLong.l0 k x0 x3 false (wrap64 (x5 + 1)))) else (if x4 = true then (bastionlaw02_UtfLong.l1 k x0 x3 x3 (x3.length : Int) 0) else (if (x3.length : Int) < (x0.size : Int) then (some true) else ((utf_Valid.f x0).bind fun t243 => (some (!t243)))))
def bastionlaw02_UtfLong.l1 : Nat → ByteArray → List Int → List Int → Int → Int → Option (Bool)
  | 0, _, _, _, _, _ => none
  | k + 1, x0, x3, x60, x61, x62 => if x62 < x61 then (if 0 ≤ x62 then (if x62 < (x60.length : Int) then (if (x3.length : Int) = (x0.size : Int) then (if x62 < (x0.size : Int) then (if (rd x60 x62) = (wrap32 (bt x0 x62)) then (bastionlaw02_UtfLong.l1 k x0 x3 x60 x61 (wrap64 (x62 + 1))) else (some false)) else (none)) else (some false)) else (none)) else (none)) else (some true)
end
def bastionlaw02_UtfLong.f (k : Nat) (a0 : ByteArray) : Option (Bool) := (bastionlaw02_lives.f k).bind fun t239 => (if t239 = true then ((utf_Decode.f a0).bind fun t240 => (if (t240.length : Int) > (a0.size : Int) then (bastionlaw02_UtfLong.j0 k a0 t240 true) else (if (a0.size : Int) > 0 then (if (t240.length : Int) = 0 then (bastionlaw02_UtfLong.j0 k a0 t240 true) else (bastionlaw02_UtfLong.j0 k a0 t240 (decide ((wrap64 (4 * (t240.length : Int))) < (a0.size : Int))))) else (bastionlaw02_UtfLong.j0 k a0 t240 (decide ((wrap64 (4 * (t240.length : Int))) < (a0.size : Int))))))) else (some false))
theorem bastionlaw02_UtfLong.mono_l : ∀ k, (∀ y0 y1 y2, LeO (bastionlaw02_UtfLong.j0 k y0 y1 y2) (bastionlaw02_UtfLong.j0 (k + 1) y0 y1 y2)) ∧ (∀ y0 y1 y2 y3, LeO (bastionlaw02_UtfLong.l0 k y0 y1 y2 y3) (bastionlaw02_UtfLong.l0 (k + 1) y0 y1 y2 y3)) ∧ (∀ y0 y1 y2 y3 y4, LeO (bastionlaw02_UtfLong.l1 k y0 y1 y2 y3 y4) (bastionlaw02_UtfLong.l1 (k + 1) y0 y1 y2 y3 y4))
  | 0 => ⟨fun _ _ _ r h => by simp [bastionlaw02_UtfLong.j0] at h, fun _ _ _ _ r h => by simp [bastionlaw02_UtfLong.l0] at h, fun _ _ _ _ _ r h => by simp [bastionlaw02_UtfLong.l1] at h⟩
  | k + 1 => by
    obtain ⟨ih0, ih1, ih2⟩ := bastionlaw02_UtfLong.mono_l k
    refine ⟨?_, ?_, ?_⟩
    · intro y0 y1 y2
      unfold bastionlaw02_UtfLong.j0
      repeat' first
      | (with_reducible exact ih0 _ _ _)
      | (with_reducible exact ih1 _ _ _ _)
      | (with_reducible exact ih2 _ _ _ _ _)
      | (with_reducible exact bastionlaw02_lives.mono _)
      | (with_reducible exact LeO.refl _)
      | (with_reducible exact LeO.none _)
      | (with_reducible refine LeO.ite ?_ ?_)
      | (with_reducible refine LeO.bind ?_ (fun _ => ?_))
      | exact ih0 _ _ _
      | exact ih1 _ _ _ _
      | exact ih2 _ _ _ _ _
      | exact bastionlaw02_lives.mono _
      | exact LeO.none _
      | refine LeO.ite ?_ ?_
      | refine LeO.bind ?_ (fun _ => ?_)
    · intro y0 y1 y2 y3
      unfold bastionlaw02_UtfLong.l0
      repeat' first
      | (with_reducible exact ih0 _ _ _)
      | (with_reducible exact ih1 _ _ _ _)
      | (with_reducible exact ih2 _ _ _ _ _)
      | (with_reducible exact bastionlaw02_lives.mono _)
      | (with_reducible exact LeO.refl _)
      | (with_reducible exact LeO.none _)
      | (with_reducible refine LeO.ite ?_ ?_)
      | (with_reducible refine LeO.bind ?_ (fun _ => ?_))
      | exact ih0 _ _ _
      | exact ih1 _ _ _ _
      | exact ih2 _ _ _ _ _
      | exact bastionlaw02_lives.mono _
      | exact LeO.none _
      | refine LeO.ite ?_ ?_
      | refine LeO.bind ?_ (fun _ => ?_)
    · intro y0 y1 y2 y3 y4
      unfold bastionlaw02_UtfLong.l1
      repeat' first
      | (with_reducible exact ih0 _ _ _)
      | (with_reducible exact ih1 _ _ _ _)
      | (with_reducible exact ih2 _ _ _ _ _)
      | (with_reducible exact bastionlaw02_lives.mono _)
      | (with_reducible exact LeO.refl _)
      | (with_reducible exact LeO.none _)
      | (with_reducible refine LeO.ite ?_ ?_)
      | (with_reducible refine LeO.bind ?_ (fun _ => ?_))
      | exact ih0 _ _ _
      | exact ih1 _ _ _ _
      | exact ih2 _ _ _ _ _
      | exact bastionlaw02_lives.mono _
      | exact LeO.none _
      | refine LeO.ite ?_ ?_
      | refine LeO.bind ?_ (fun _ => ?_)
theorem bastionlaw02_UtfLong.mono : ∀ a0 k, LeO (bastionlaw02_UtfLong.f k a0) (bastionlaw02_UtfLong.f (k + 1) a0) := by
  intro a0 k
  obtain ⟨ih0, ih1, ih2⟩ := bastionlaw02_UtfLong.mono_l k
  unfold bastionlaw02_UtfLong.f
  repeat' first
      | (with_reducible exact ih0 _ _ _)
      | (with_reducible exact ih1 _ _ _ _)
      | (with_reducible exact ih2 _ _ _ _ _)
      | (with_reducible exact bastionlaw02_lives.mono _)
      | (with_reducible exact LeO.refl _)
      | (with_reducible exact LeO.none _)
      | (with_reducible refine LeO.ite ?_ ?_)
      | (with_reducible refine LeO.bind ?_ (fun _ => ?_))
      | exact ih0 _ _ _
      | exact ih1 _ _ _ _
      | exact ih2 _ _ _ _ _
      | exact bastionlaw02_lives.mono _
      | exact LeO.none _
      | refine LeO.ite ?_ ?_
      | refine LeO.bind ?_ (fun _ => ?_)
set_option maxHeartbeats 8000000 in
set_option maxRecDepth 100000 in
theorem bastionlaw02_UtfLong.calls (k : Nat) (a0 : ByteArray) (r : Bool) (w : World) (hT : UTabs w) (h : bastionlaw02_UtfLong.f k a0 = some r) :
    Calls Tryd.prog 4 #[.string a0] w fun e w' => e = .returned (.bool r) ∧ Below w.heap.size w w' := by
  have HB := Aside0.mk (Below.refl w.heap.size w)
  have HTB := Aside0.mk hT
  clear hT
  have H : ((bastionlaw02_lives.f k).bind fun t239 => (if t239 = true then ((utf_Decode.f a0).bind fun t240 => (if (t240.length : Int) > (a0.size : Int) then (bastionlaw02_UtfLong.j0 k a0 t240 true) else (if (a0.size : Int) > 0 then (if (t240.length : Int) = 0 then (bastionlaw02_UtfLong.j0 k a0 t240 true) else (bastionlaw02_UtfLong.j0 k a0 t240 (decide ((wrap64 (4 * (t240.length : Int))) < (a0.size : Int))))) else (bastionlaw02_UtfLong.j0 k a0 t240 (decide ((wrap64 (4 * (t240.length : Int))) < (a0.size : Int))))))) else (some false))) = some r := h
  clear h
  replace H := Option.bind_eq_some_iff.mp H
  obtain ⟨t239, A20, H⟩ := H
  replace H : (if t239 = true then ((utf_Decode.f a0).bind fun t240 => (if (t240.length : Int) > (a0.size : Int) then (bastionlaw02_UtfLong.j0 k a0 t240 true) else (if (a0.size : Int) > 0 then (if (t240.length : Int) = 0 then (bastionlaw02_UtfLong.j0 k a0 t240 true) else (bastionlaw02_UtfLong.j0 k a0 t240 (decide ((wrap64 (4 * (t240.length : Int))) < (a0.size : Int))))) else (bastionlaw02_UtfLong.j0 k a0 t240 (decide ((wrap64 (4 * (t240.length : Int))) < (a0.size : Int))))))) else (some false)) = some r := H
  have A2 := Aside0.mk A20
  clear A20
  by_cases c3 : t239 = true
  · subst c3
    have H1 : ((utf_Decode.f a0).bind fun t240 => (if (t240.length : Int) > (a0.size : Int) then (bastionlaw02_UtfLong.j0 k a0 t240 true) else (if (a0.size : Int) > 0 then (if (t240.length : Int) = 0 then (bastionlaw02_UtfLong.j0 k a0 t240 true) else (bastionlaw02_UtfLong.j0 k a0 t240 (decide ((wrap64 (4 * (t240.length : Int))) < (a0.size : Int))))) else (bastionlaw02_UtfLong.j0 k a0 t240 (decide ((wrap64 (4 * (t240.length : Int))) < (a0.size : Int))))))) = some r := by rw [if_pos rfl] at H; exact H
    clear H
    have H := H1
    clear H1
    replace H := Option.bind_eq_some_iff.mp H
    obtain ⟨t240, A40, H⟩ := H
    replace H : (if (t240.length : Int) > (a0.size : Int) then (bastionlaw02_UtfLong.j0 k a0 t240 true) else (if (a0.size : Int) > 0 then (if (t240.length : Int) = 0 then (bastionlaw02_UtfLong.j0 k a0 t240 true) else (bastionlaw02_UtfLong.j0 k a0 t240 (decide ((wrap64 (4 * (t240.length : Int))) < (a0.size : Int))))) else (bastionlaw02_UtfLong.j0 k a0 t240 (decide ((wrap64 (4 * (t240.length : Int))) < (a0.size : Int)))))) = some r := H
    have A4 := Aside0.mk A40
    clear A40
    have HC5 := Aside0.mk H
    clear H
    go_enter Tryd.func4, Tryd.ntmps4
    go_upto_region 4 with (first | ((with_reducible refine gate_callee (f := 9) rfl ?_); refine goesL_ (some 8) rfl rfl Tryd.func9 (by kernel_rfl) rfl #[] rfl (by (try simp only [List.map_toArray, List.map_cons, List.map_nil]); first | done | rfl | (simp only [List.length_drop, List.length_take]; rfl)) ?_; (with_reducible refine (bastionlaw02_lives.calls k  true _ ?side1 A2.out).mono ?_); (case side1 => exact UTabs.below HTB.out (by repeat (first | (with_reducible first | exact HB.out | apply below_alloc | apply pw_below_drewN | apply below_drew1) | exact HB.out))); rintro e w6 ⟨rfl, hb⟩; refine ⟨_, rfl, ?_⟩; have n0_ := Aside0.mk (below_step (by repeat (first | (with_reducible first | exact HB.out | apply below_alloc | apply pw_below_drewN | apply below_drew1) | exact HB.out)) hb); clear HB; have HB := n0_; clear n0_; (try clear hb); (try clear hb2); (try clear hk); (try clear hi)) | ((with_reducible refine gate_callee (f := 15) rfl ?_); refine goesL_ (some 11) rfl rfl Tryd.func15 (by kernel_rfl) rfl #[.string a0] rfl (by (try simp only [List.map_toArray, List.map_cons, List.map_nil]); first | done | rfl | (simp only [List.length_drop, List.length_take]; rfl)) ?_; (with_reducible refine (utf_Decode.calls a0 t240 _ ?side1 A4.out).mono ?_); (case side1 => exact UTabs.below HTB.out (by repeat (first | (with_reducible first | exact HB.out | apply below_alloc | apply pw_below_drewN | apply below_drew1) | exact HB.out))); rintro e w7 ⟨v241, rfl, ho0, hb⟩; refine ⟨_, rfl, ?_⟩; have n0_ := Aside0.mk (Kd.R_lower ho0 (below_size (by repeat (first | (with_reducible first | exact HB.out | apply below_alloc | apply pw_below_drewN | apply below_drew1) | exact HB.out)))); have n1_ := Aside0.mk (below_step (by repeat (first | (with_reducible first | exact HB.out | apply below_alloc | apply pw_below_drewN | apply below_drew1) | exact HB.out)) hb); clear HB; have HO242 := n0_; have HB := n1_; clear n0_ n1_; (try clear hb); (try clear hb2); (try clear hk); (try clear hi); (try clear ho0)))
    (try simp only [Act.put, List.setIfInBounds_toArray, List.set_cons_zero, List.set_cons_succ])
    go_cut [34] (fun v34 wc => ∃ (kq : Nat) (x34_4 : Bool), v34 = .bool x34_4 ∧ Aside0 (bastionlaw02_UtfLong.j0 kq a0 t240 x34_4 = some r) ∧ Aside0 (kq ≤ k) ∧ Aside0 (Kd.R (Kd.int .i32) 21 wc w.heap.size (fun _ => True) v241 t240) ∧ Aside0 (Below w.heap.size w wc))
    case first =>
      have H := HC5.out
      clear HC5
      by_cases c8 : (t240.length : Int) > (a0.size : Int)
      · rw [if_pos c8] at H
        have c8b0 : decide ((a0.size : Int) < (t240.length : Int)) = true := decide_eq_true c8
        have c8b1 : decide (a0.size < t240.length) = true := decide_eq_true (Int.ofNat_lt.mp c8)
        clear c8
        (first | rw [c8b0] | (simp only [i64_w, i32_w]; rw [c8b0]) | skip)
        have H' := Aside0.mk H
        clear H
        obtain ⟨Ao9, co9, eo9⟩ := Kd.R_slice HO242.out
        subst eo9
        go_wp2
        go_meet
        case rel => exact ⟨_, (true), (by first | rfl | (simp; done) | (simp [*]; done)), H', ⟨by first | omega | exact Nat.le_refl _⟩, ⟨by (with_reducible repeat (first | apply Kd.R_alloc | apply Kd.R_drewN | apply Kd.R_drew)); exact HO242.out⟩, ⟨by repeat (first | (with_reducible first | exact HB.out | apply below_alloc | apply pw_below_drewN | apply below_drew1) | exact HB.out)⟩⟩
      · rw [if_neg c8] at H
        have c8b0 : decide ((a0.size : Int) < (t240.length : Int)) = false := decide_eq_false c8
        have c8b1 : decide (a0.size < t240.length) = false := decide_eq_false (fun h => c8 (Int.ofNat_lt.mpr h))
        clear c8
        (first | rw [c8b0] | (simp only [i64_w, i32_w]; rw [c8b0]) | skip)
        by_cases c10 : (a0.size : Int) > 0
        · rw [if_pos c10] at H
          have c10b0 : decide (0 < (a0.size : Int)) = true := decide_eq_true c10
          have c10b1 : decide (0 < a0.size) = true := decide_eq_true (by omega)
          clear c10
          by_cases c11 : (t240.length : Int) = 0
          · rw [if_pos c11] at H
            have c11b0 : ((t240.length : Int) == 0) = true := beq_iff_eq.mpr c11
            have c11b1 : ((t240.length : Int) != 0) = false := bne_eq_false_iff_eq.mpr c11
            clear c11
            have H' := Aside0.mk H
            clear H
            obtain ⟨Ao12, co12, eo12⟩ := Kd.R_slice HO242.out
            subst eo12
            go_wp2
            go_meet
            case rel => exact ⟨_, (true), (by first | rfl | (simp; done) | (simp [*]; done)), H', ⟨by first | omega | exact Nat.le_refl _⟩, ⟨by (with_reducible repeat (first | apply Kd.R_alloc | apply Kd.R_drewN | apply Kd.R_drew)); exact HO242.out⟩, ⟨by repeat (first | (with_reducible first | exact HB.out | apply below_alloc | apply pw_below_drewN | apply below_drew1) | exact HB.out)⟩⟩
          · rw [if_neg c11] at H
            have c11b0 : ((t240.length : Int) == 0) = false := beq_eq_false_iff_ne.mpr c11
            have c11b1 : ((t240.length : Int) != 0) = true := bne_iff_ne.mpr c11
            have c11b2 : ¬ (t240 = []) := fun h_ => c11 (by rw [h_]; rfl)
            have H' := Aside0.mk H
            clear H
            obtain ⟨Ao13, co13, eo13⟩ := Kd.R_slice HO242.out
            subst eo13
            go_wp2
            go_meet
            case rel => exact ⟨_, (decide ((wrap64 (4 * (t240.length : Int))) < (a0.size : Int))), (by first | rfl | (simp; done) | (simp [*]; done)), H', ⟨by first | omega | exact Nat.le_refl _⟩, ⟨by (with_reducible repeat (first | apply Kd.R_alloc | apply Kd.R_drewN | apply Kd.R_drew)); exact HO242.out⟩, ⟨by repeat (first | (with_reducible first | exact HB.out | apply below_alloc | apply pw_below_drewN | apply below_drew1) | exact HB.out)⟩⟩
        · rw [if_neg c10] at H
          have c10b0 : decide (0 < (a0.size : Int)) = false := decide_eq_false c10
          have c10b1 : decide (0 < a0.size) = false := decide_eq_false (by omega)
          clear c10
          have H' := Aside0.mk H
          clear H
          obtain ⟨Ao14, co14, eo14⟩ := Kd.R_slice HO242.out
          subst eo14
          go_wp2
          go_meet
          case rel => exact ⟨_, (decide ((wrap64 (4 * (t240.length : Int))) < (a0.size : Int))), (by first | rfl | (simp; done) | (simp [*]; done)), H', ⟨by first | omega | exact Nat.le_refl _⟩, ⟨by (with_reducible repeat (first | apply Kd.R_alloc | apply Kd.R_drewN | apply Kd.R_drew)); exact HO242.out⟩, ⟨by repeat (first | (with_reducible first | exact HB.out | apply below_alloc | apply pw_below_drewN | apply below_drew1) | exact HB.out)⟩⟩
    case rest =>
      clear HC5
      try clear c1
      try clear p2
      try clear c3
      try clear c4
      try clear p6
      try clear c8
      try clear c8b0
      try clear c8b1
      try clear c9
      try clear c10
      try clear c10b0
      try clear c10b1
      try clear c11
      try clear c11b0
      try clear c11b1
      try clear c11b2
      obtain ⟨kq, x34_4, rfl, HA, HJ4, HO_3, HB⟩ := hcut
      cases kq with
      | zero => exact absurd HA.out (by simp [bastionlaw02_UtfLong.j0])
      | succ kj4 =>
        have H := HA.out
        clear HA
        simp only [bastionlaw02_UtfLong.j0] at H
        by_cases c15 : x34_4 = true
        · subst c15
          have H1 : (some false) = some r := by rw [if_pos rfl] at H; exact H
          clear H
          have H := H1
          clear H1
          obtain rfl := Option.some.inj H
          go_wp2
          go_ret
          exact ⟨by first | rfl | (simp [errW_none, errW_some] <;> rfl) | (simp [*, errW_none, errW_some] <;> rfl), by repeat (first | (with_reducible first | exact HB.out | apply below_alloc | apply pw_below_drewN | apply below_drew1) | exact HB.out)⟩
        · replace c15 := Bool.eq_false_iff.mpr c15
          subst c15
          have H1 : (bastionlaw02_UtfLong.l0 kj4 a0 t240 true 0) = some r := by rw [if_neg (show ¬ (false = true) by decide)] at H; exact H
          clear H
          have H := H1
          clear H1
          have H' := Aside0.mk H
          clear H
          go_wp2
          go_loopg [4, 5] kj4 (fun kq v4 v5 w' => ∃ (x4_2 : Bool) (x5_2 : Int), v4 = .bool x4_2 ∧ v5 = .int .i64 x5_2 ∧ Aside0 (bastionlaw02_UtfLong.l0 kq a0 t240 x4_2 x5_2 = some r) ∧ Aside0 (kq ≤ kj4) ∧ Aside0 (Kd.R (Kd.int .i32) 21 w' w.heap.size (fun _ => True) v241 t240) ∧ Aside0 (Below w.heap.size w w'))
          case atStart => exact ⟨(true), (0), (by first | rfl | (simp; done) | (simp [*]; done)), (by first | rfl | (simp; done) | (simp [*]; done)), H', ⟨Nat.le_refl _⟩, ⟨by (with_reducible repeat (first | apply Kd.R_alloc | apply Kd.R_drewN | apply Kd.R_drew)); exact HO_3.out⟩, ⟨by repeat (first | (with_reducible first | exact HB.out | apply below_alloc | apply pw_below_drewN | apply below_drew1) | exact HB.out)⟩⟩
          case round =>
            clear H'
            try clear c1
            try clear p2
            try clear c3
            try clear c4
            try clear p6
            try clear c8
            try clear c8b0
            try clear c8b1
            try clear c9
            try clear c10
            try clear c10b0
            try clear c10b1
            try clear c11
            try clear c11b0
            try clear c11b1
            try clear c11b2
            try clear c15
            try clear p2
            try clear p6
            obtain ⟨x4_2, x5_2, rfl, rfl, HA, HK2, HO_3, HB⟩ := hrel
            cases gk with
            | zero => exact absurd HA.out (by simp [bastionlaw02_UtfLong.l0])
            | succ k2 =>
              have H := HA.out
              clear HA
              simp only [bastionlaw02_UtfLong.l0] at H
              by_cases c16 : x5_2 < (a0.size : Int)
              · rw [if_pos c16] at H
                have c16b0 : decide (x5_2 < (a0.size : Int)) = true := decide_eq_true c16
                clear c16
                by_cases c17 : x4_2 = true
                · subst c17
                  have H1 : (if 0 ≤ x5_2 then (bastionlaw02_UtfLong.l0 k2 a0 t240 (decide ((bt a0 x5_2) < 128)) (wrap64 (x5_2 + 1))) else (none)) = some r := by rw [if_pos rfl] at H; exact H
                  clear H
                  have H := H1
                  clear H1
                  by_cases c18 : 0 ≤ x5_2
                  · rw [if_pos c18] at H
                    have c18b0 : decide (0 ≤ x5_2) = true := decide_eq_true c18
                    clear c18
                    have H' := Aside0.mk H
                    clear H
                    have p19 : 0 ≤ (x5_2 : Int) := of_decide_eq_true (by first | (with_reducible assumption) | assumption)
                    have q19 : x5_2 < (a0.size : Int) := of_decide_eq_true (by first | (with_reducible assumption) | assumption)
                    have hx19 := bt_at a0 x5_2
                    replace p19 := eq_true p19
                    replace q19 := eq_true q19
                    go_wp2
                    go_roundg k2
                    case measure => have := HJ4.out; have := HK2.out; omega
                    case rel => exact ⟨(decide ((bt a0 x5_2) < 128)), (wrap64 (x5_2 + 1)), (by first | rfl | (simp; done) | (simp [*]; done)), (by first | rfl | (simp; done) | (simp [*]; done)), H', ⟨by have := HJ4.out; have := HK2.out; omega⟩, ⟨by (with_reducible repeat (first | apply Kd.R_alloc | apply Kd.R_drewN | apply Kd.R_drew)); exact HO_3.out⟩, ⟨by repeat (first | (with_reducible first | exact HB.out | apply below_alloc | apply pw_below_drewN | apply below_drew1) | exact HB.out)⟩⟩
                  · rw [if_neg c18] at H
                    exact absurd H (by simp)
                · replace c17 := Bool.eq_false_iff.mpr c17
                  subst c17
                  have H1 : (bastionlaw02_UtfLong.l0 k2 a0 t240 false (wrap64 (x5_2 + 1))) = some r := by rw [if_neg (show ¬ (false = true) by decide)] at H; exact H
                  clear H
                  have H := H1
                  clear H1
                  have H' := Aside0.mk H
                  clear H
                  go_wp2
                  go_roundg k2
                  case measure => have := HJ4.out; have := HK2.out; omega
                  case rel => exact ⟨(false), (wrap64 (x5_2 + 1)), (by first | rfl | (simp; done) | (simp [*]; done)), (by first | rfl | (simp; done) | (simp [*]; done)), H', ⟨by have := HJ4.out; have := HK2.out; omega⟩, ⟨by (with_reducible repeat (first | apply Kd.R_alloc | apply Kd.R_drewN | apply Kd.R_drew)); exact HO_3.out⟩, ⟨by repeat (first | (with_reducible first | exact HB.out | apply below_alloc | apply pw_below_drewN | apply below_drew1) | exact HB.out)⟩⟩
              · rw [if_neg c16] at H
                have c16b0 : decide (x5_2 < (a0.size : Int)) = false := decide_eq_false c16
                clear c16
                by_cases c20 : x4_2 = true
                · subst c20
                  have H1 : (bastionlaw02_UtfLong.l1 k2 a0 t240 t240 (t240.length : Int) 0) = some r := by rw [if_pos rfl] at H; exact H
                  clear H
                  have H := H1
                  clear H1
                  have H' := Aside0.mk H
                  clear H
                  obtain ⟨Ao21, co21, eo21⟩ := Kd.R_slice HO_3.out
                  subst eo21
                  go_wp2
                  go_loopg [62] k2 (fun kq v62 w' => ∃ (x62_3 : Int), v62 = .int .i64 x62_3 ∧ Aside0 (bastionlaw02_UtfLong.l1 kq a0 t240 t240 (t240.length : Int) x62_3 = some r) ∧ Aside0 (kq ≤ k2) ∧ Aside0 (Kd.R (Kd.int .i32) 21 w' w.heap.size (fun _ => True) (.slice Ao21 t240.length co21) t240) ∧ Aside0 (Kd.R (Kd.int .i32) 21 w' w.heap.size (fun _ => True) (.slice Ao21 t240.length co21) t240) ∧ Aside0 (Below w.heap.size w w'))
                  case atStart => exact ⟨(0), (by first | rfl | (simp; done) | (simp [*]; done)), H', ⟨Nat.le_refl _⟩, ⟨by (with_reducible repeat (first | apply Kd.R_alloc | apply Kd.R_drewN | apply Kd.R_drew)); exact HO_3.out⟩, ⟨by (with_reducible repeat (first | apply Kd.R_alloc | apply Kd.R_drewN | apply Kd.R_drew)); exact HO_3.out⟩, ⟨by repeat (first | (with_reducible first | exact HB.out | apply below_alloc | apply pw_below_drewN | apply below_drew1) | exact HB.out)⟩⟩
                  case round =>
                    clear H'
                    try clear c1
                    try clear p1
                    try clear q1
                    try clear hx1
                    try clear c2
                    try clear p2
                    try clear c3
                    try clear c4
                    try clear p6
                    try clear c8
                    try clear c8b0
                    try clear c8b1
                    try clear c9
                    try clear c10
                    try clear c10b0
                    try clear c10b1
                    try clear c11
                    try clear c11b0
                    try clear c11b1
                    try clear c11b2
                    try clear c15
                    try clear c16
                    try clear c16b0
                    try clear c17
                    try clear c18
                    try clear c18b0
                    try clear p19
                    try clear q19
                    try clear hx19
                    try clear c20
                    try clear p19
                    try clear p2
                    try clear p6
                    try clear q19
                    obtain ⟨x62_3, rfl, HA, HK3, HO_3, HO_60, HB⟩ := hrel
                    cases gk with
                    | zero => exact absurd HA.out (by simp [bastionlaw02_UtfLong.l1])
                    | succ k3 =>
                      have H := HA.out
                      clear HA
                      simp only [bastionlaw02_UtfLong.l1] at H
                      by_cases c22 : x62_3 < (t240.length : Int)
                      · rw [if_pos c22] at H
                        have c22b0 : decide (x62_3 < (t240.length : Int)) = true := decide_eq_true c22
                        clear c22
                        by_cases c23 : 0 ≤ x62_3
                        · rw [if_pos c23] at H
                          have c23b0 : decide (0 ≤ x62_3) = true := decide_eq_true c23
                          clear c23
                          by_cases c24 : x62_3 < (t240.length : Int)
                          · rw [if_pos c24] at H
                            have c24b0 : decide (x62_3 < (t240.length : Int)) = true := decide_eq_true c24
                            clear c24
                            by_cases c25 : (t240.length : Int) = (a0.size : Int)
                            · rw [if_pos c25] at H
                              have c25b0 : ((t240.length : Int) == (a0.size : Int)) = true := beq_iff_eq.mpr c25
                              have c25b1 : ((t240.length : Int) != (a0.size : Int)) = false := bne_eq_false_iff_eq.mpr c25
                              have c25b2 : (t240.length == a0.size) = true := by first | simpa using c25 | (simp at c25 ⊢; omega)
                              clear c25
                              by_cases c26 : x62_3 < (a0.size : Int)
                              · rw [if_pos c26] at H
                                have c26b0 : decide (x62_3 < (a0.size : Int)) = true := decide_eq_true c26
                                clear c26
                                by_cases c28 : (rd t240 x62_3) = (wrap32 (bt a0 x62_3))
                                · rw [if_pos c28] at H
                                  have c28b0 : ((rd t240 x62_3) == (wrap32 (bt a0 x62_3))) = true := beq_iff_eq.mpr c28
                                  have c28b1 : ((rd t240 x62_3) != (wrap32 (bt a0 x62_3))) = false := bne_eq_false_iff_eq.mpr c28
                                  clear c28
                                  have H' := Aside0.mk H
                                  clear H
                                  have p244 : 0 ≤ (x62_3 : Int) := of_decide_eq_true (by first | (with_reducible assumption) | assumption)
                                  have q244 : x62_3 < (t240.length : Int) := of_decide_eq_true (by first | (with_reducible assumption) | assumption)
                                  obtain ⟨ad244, e244, hx244_0⟩ := Kd.at_int (Kd.R_reads' HO_60.out).2.2 x62_3 p244 q244
                                  cases e244
                                  replace p244 := eq_true p244
                                  replace q244 := eq_true q244
                                  have p27 : 0 ≤ (x62_3 : Int) := of_decide_eq_true (by first | (with_reducible assumption) | assumption)
                                  have q27 : x62_3 < (a0.size : Int) := of_decide_eq_true (by first | (with_reducible assumption) | assumption)
                                  have hx27 := bt_at a0 x62_3
                                  replace p27 := eq_true p27
                                  replace q27 := eq_true q27
                                  go_wp2
                                  go_roundg k3
                                  case measure => have := HJ4.out; have := HK2.out; have := HK3.out; omega
                                  case rel => exact ⟨(wrap64 (x62_3 + 1)), (by first | rfl | (simp; done) | (simp [*]; done)), H', ⟨by have := HJ4.out; have := HK2.out; have := HK3.out; omega⟩, ⟨by (with_reducible repeat (first | apply Kd.R_alloc | apply Kd.R_drewN | apply Kd.R_drew)); exact HO_3.out⟩, ⟨by (with_reducible repeat (first | apply Kd.R_alloc | apply Kd.R_drewN | apply Kd.R_drew)); exact HO_60.out⟩, ⟨by repeat (first | (with_reducible first | exact HB.out | apply below_alloc | apply pw_below_drewN | apply below_drew1) | exact HB.out)⟩⟩
                                · rw [if_neg c28] at H
                                  have c28b0 : ((rd t240 x62_3) == (wrap32 (bt a0 x62_3))) = false := beq_eq_false_iff_ne.mpr c28
                                  have c28b1 : ((rd t240 x62_3) != (wrap32 (bt a0 x62_3))) = true := bne_iff_ne.mpr c28
                                  obtain rfl := Option.some.inj H
                                  have p244 : 0 ≤ (x62_3 : Int) := of_decide_eq_true (by first | (with_reducible assumption) | assumption)
                                  have q244 : x62_3 < (t240.length : Int) := of_decide_eq_true (by first | (with_reducible assumption) | assumption)
                                  obtain ⟨ad244, e244, hx244_0⟩ := Kd.at_int (Kd.R_reads' HO_60.out).2.2 x62_3 p244 q244
                                  cases e244
                                  replace p244 := eq_true p244
                                  replace q244 := eq_true q244
                                  have p27 : 0 ≤ (x62_3 : Int) := of_decide_eq_true (by first | (with_reducible assumption) | assumption)
                                  have q27 : x62_3 < (a0.size : Int) := of_decide_eq_true (by first | (with_reducible assumption) | assumption)
                                  have hx27 := bt_at a0 x62_3
                                  replace p27 := eq_true p27
                                  replace q27 := eq_true q27
                                  go_wp2
                                  go_ret
                                  exact ⟨by first | rfl | (simp [errW_none, errW_some] <;> rfl) | (simp [*, errW_none, errW_some] <;> rfl), by repeat (first | (with_reducible first | exact HB.out | apply below_alloc | apply pw_below_drewN | apply below_drew1) | exact HB.out)⟩
                              · rw [if_neg c26] at H
                                exact absurd H (by simp)
                            · rw [if_neg c25] at H
                              have c25b0 : ((t240.length : Int) == (a0.size : Int)) = false := beq_eq_false_iff_ne.mpr c25
                              have c25b1 : ((t240.length : Int) != (a0.size : Int)) = true := bne_iff_ne.mpr c25
                              have c25b2 : (t240.length == a0.size) = false := by first | simpa using c25 | (simp at c25 ⊢; omega)
                              obtain rfl := Option.some.inj H
                              have p244 : 0 ≤ (x62_3 : Int) := of_decide_eq_true (by first | (with_reducible assumption) | assumption)
                              have q244 : x62_3 < (t240.length : Int) := of_decide_eq_true (by first | (with_reducible assumption) | assumption)
                              obtain ⟨ad244, e244, hx244_0⟩ := Kd.at_int (Kd.R_reads' HO_60.out).2.2 x62_3 p244 q244
                              cases e244
                              replace p244 := eq_true p244
                              replace q244 := eq_true q244
                              go_wp2
                              go_ret
                              exact ⟨by first | rfl | (simp [errW_none, errW_some] <;> rfl) | (simp [*, errW_none, errW_some] <;> rfl), by repeat (first | (with_reducible first | exact HB.out | apply below_alloc | apply pw_below_drewN | apply below_drew1) | exact HB.out)⟩
                          · exact absurd (by first | exact of_eq_true c22b0 | exact of_decide_eq_true c22b0 | exact beq_iff_eq.mp c22b0 | assumption) c24
                        · rw [if_neg c23] at H
                          exact absurd H (by simp)
                      · rw [if_neg c22] at H
                        have c22b0 : decide (x62_3 < (t240.length : Int)) = false := decide_eq_false c22
                        clear c22
                        obtain rfl := Option.some.inj H
                        go_wp2
                        go_ret
                        exact ⟨by first | rfl | (simp [errW_none, errW_some] <;> rfl) | (simp [*, errW_none, errW_some] <;> rfl), by repeat (first | (with_reducible first | exact HB.out | apply below_alloc | apply pw_below_drewN | apply below_drew1) | exact HB.out)⟩
                · replace c20 := Bool.eq_false_iff.mpr c20
                  subst c20
                  have H1 : (if (t240.length : Int) < (a0.size : Int) then (some true) else ((utf_Valid.f a0).bind fun t243 => (some (!t243)))) = some r := by rw [if_neg (show ¬ (false = true) by decide)] at H; exact H
                  clear H
                  have H := H1
                  clear H1
                  by_cases c29 : (t240.length : Int) < (a0.size : Int)
                  · rw [if_pos c29] at H
                    have c29b0 : decide ((t240.length : Int) < (a0.size : Int)) = true := decide_eq_true c29
                    have c29b1 : decide (t240.length < a0.size) = true := decide_eq_true (Int.ofNat_lt.mp c29)
                    clear c29
                    obtain rfl := Option.some.inj H
                    obtain ⟨Ao30, co30, eo30⟩ := Kd.R_slice HO_3.out
                    subst eo30
                    go_wp2
                    go_ret
                    exact ⟨by first | rfl | (simp [errW_none, errW_some] <;> rfl) | (simp [*, errW_none, errW_some] <;> rfl), by repeat (first | (with_reducible first | exact HB.out | apply below_alloc | apply pw_below_drewN | apply below_drew1) | exact HB.out)⟩
                  · rw [if_neg c29] at H
                    have c29b0 : decide ((t240.length : Int) < (a0.size : Int)) = false := decide_eq_false c29
                    have c29b1 : decide (t240.length < a0.size) = false := decide_eq_false (fun h => c29 (Int.ofNat_lt.mpr h))
                    clear c29
                    replace H := Option.bind_eq_some_iff.mp H
                    obtain ⟨t243, A310, H⟩ := H
                    replace H : (some (!t243)) = some r := H
                    have A31 := Aside0.mk A310
                    clear A310
                    obtain rfl := Option.some.inj H
                    obtain ⟨Ao32, co32, eo32⟩ := Kd.R_slice HO_3.out
                    subst eo32
                    go_wp2_with (first | (go_at_call 16; (with_reducible refine (utf_Valid.calls a0 t243 _ ?side1 A31.out).mono ?_); (case side1 => exact UTabs.below HTB.out (by repeat (first | (with_reducible first | exact HB.out | apply below_alloc | apply pw_below_drewN | apply below_drew1) | exact HB.out))); rintro e w33 ⟨rfl, hb⟩; have n0_ := Aside0.mk (Kd.R_below (by (with_reducible repeat (first | apply Kd.R_alloc | apply Kd.R_drewN | apply Kd.R_drew)); exact HO_3.out) hb); have n1_ := Aside0.mk (below_step (by repeat (first | (with_reducible first | exact HB.out | apply below_alloc | apply pw_below_drewN | apply below_drew1) | exact HB.out)) hb); clear HO_3; clear HB; have HO_3 := n0_; have HB := n1_; clear n0_ n1_; (try clear hb); (try clear hb2); (try clear hk); (try clear hi)))
                    go_ret
                    exact ⟨by first | rfl | (simp [errW_none, errW_some] <;> rfl) | (simp [*, errW_none, errW_some] <;> rfl), by repeat (first | (with_reducible first | exact HB.out | apply below_alloc | apply pw_below_drewN | apply below_drew1) | exact HB.out)⟩
  · replace c3 := Bool.eq_false_iff.mpr c3
    subst c3
    have H1 : (some false) = some r := by rw [if_neg (show ¬ (false = true) by decide)] at H; exact H
    clear H
    have H := H1
    clear H1
    obtain rfl := Option.some.inj H
    go_enter Tryd.func4, Tryd.ntmps4
    go_wp2_with (first | ((with_reducible refine gate_callee (f := 9) rfl ?_); refine goesL_ (some 8) rfl rfl Tryd.func9 (by kernel_rfl) rfl #[] rfl (by (try simp only [List.map_toArray, List.map_cons, List.map_nil]); first | done | rfl | (simp only [List.length_drop, List.length_take]; rfl)) ?_; (with_reducible refine (bastionlaw02_lives.calls k  false _ ?side1 A2.out).mono ?_); (case side1 => exact UTabs.below HTB.out (by repeat (first | (with_reducible first | exact HB.out | apply below_alloc | apply pw_below_drewN | apply below_drew1) | exact HB.out))); rintro e w34 ⟨rfl, hb⟩; refine ⟨_, rfl, ?_⟩; have n0_ := Aside0.mk (below_step (by repeat (first | (with_reducible first | exact HB.out | apply below_alloc | apply pw_below_drewN | apply below_drew1) | exact HB.out)) hb); clear HB; have HB := n0_; clear n0_; (try clear hb); (try clear hb2); (try clear hk); (try clear hi)))
    go_ret
    exact ⟨by first | rfl | (simp [errW_none, errW_some] <;> rfl) | (simp [*, errW_none, errW_some] <;> rfl), by repeat (first | (with_reducible first | exact HB.out | apply below_alloc | apply pw_below_drewN | apply below_drew1) | exact HB.out)⟩

/-- THE ONE PURE STATEMENT of bastionlaw02_UtfLong: yours. -/
def bastionlaw02_UtfLong.Pure : Prop := ∀ (a0 : ByteArray), a0.size ≤ 140737488351232 → ∃ k, bastionlaw02_UtfLong.f k a0 = some true
theorem bastionlaw02_UtfLong.walk (P : bastionlaw02_UtfLong.Pure) (a0 : ByteArray) (w : World) (hT : UTabs w) (w0 : a0.size ≤ 140737488351232) :
    Calls Tryd.prog 4 #[.string a0] w fun e w' => e = .returned (.bool true) ∧ Below w.heap.size w w' := by
  obtain ⟨k, h⟩ := P a0 w0
  refine (bastionlaw02_UtfLong.calls k a0 true w hT h).mono ?_
  rintro e w' ⟨rfl, hd⟩
  exact ⟨rfl, hd⟩

end Go.Proofs.YtiobcjgolmiabaaDoor.Q
