/- Functions of the given program as plain Lean functions, each with the proof that the machine answers as it does; laid by a program of mine over the kit print. -/
import Derived.Test.YtiobcjgolmiabaaQbase
import Derived.Test.YtiobcjgolmiabaaEnc
import Derived.Test.YtiobcjgolmiabaaQbastionlaw011
import Derived.Test.YtiobcjgolmiabaaQpct0
namespace Go.Proofs.Ytiobcjgolmiabaa.Q
open Go.RowKit Go.Proofs.YtiobcjgolmiabaaW.PrintWords Go.Proofs.YtiobcjgolmiabaaW.PrintLast Go.Proofs.YtiobcjgolmiabaaW.PrintMore
attribute [local go_sem] max2_int min2_int max_two min_two max_three min_three max_four min_four
set_option linter.unusedVariables false
set_option linter.unusedSimpArgs false

/-! ### bastionlaw01_PctBack: function 5 -/
mutual
def bastionlaw01_PctBack.j0 : Nat → Int → ByteArray → Bool → Option (Bool)
  | 0, _, _, _ => none
  | k + 1, x1, x5, x61 => if x61 = true then (some false) else (bastionlaw01_PctBack.l0 k x1 x5 0)
def bastionlaw01_PctBack.l0 : Nat → Int → ByteArray → Int → Option (Bool)
  | 0, _, _, _ => none
  | k + 1, x1, x5, x10 => if x10 < (x5.size : Int) then (if 0 ≤ x10 then (if (bt x5 x10) = 37 then (bastionlaw01_PctBack.l0 k x1 x5 (wrap64 (x10 + 1))) else ((pct_In.f k x1 (bt x5 x10)).bind fun t230 => (if t230 = true then (some false) else (bastionlaw01_PctBack.l0 k x1 x5 (wrap64 (x10 + 1)))))) else (none)) else (some true)
end
def bastionlaw01_PctBack.f (k : Nat) (a0 : ByteArray) (a1 : Int) : Option (Bool) := (bastionlaw01_lives.f k).bind fun t221 => (if t221 = true then ((pct_Encode.f a0 a1).bind fun bt222 => (if bt222.2 = 0 then ((pct_Encode.f bt222.1 a1).bind fun bt224 => ((pct_In.f k a1 37).bind fun t226 => (if bt224.2 = 0 then (if t226 = true then ((pct_Decode.f k bt222.1).bind fun t227 => (if t227.toList = a0.toList then (bastionlaw01_PctBack.j0 k a1 bt222.1 false) else (bastionlaw01_PctBack.j0 k a1 bt222.1 true))) else (if bt224.1.toList = bt222.1.toList then ((pct_Decode.f k bt222.1).bind fun t228 => ((pct_Decode.f k a0).bind fun t229 => (bastionlaw01_PctBack.j0 k a1 bt222.1 (t228.toList != t229.toList)))) else (bastionlaw01_PctBack.j0 k a1 bt222.1 true))) else (bastionlaw01_PctBack.j0 k a1 bt222.1 true)))) else (some (bt222.1.toList == ([] : List UInt8))))) else (some false))
theorem bastionlaw01_PctBack.mono_l : ∀ k, (∀ y0 y1 y2, LeO (bastionlaw01_PctBack.j0 k y0 y1 y2) (bastionlaw01_PctBack.j0 (k + 1) y0 y1 y2)) ∧ (∀ y0 y1 y2, LeO (bastionlaw01_PctBack.l0 k y0 y1 y2) (bastionlaw01_PctBack.l0 (k + 1) y0 y1 y2))
  | 0 => ⟨fun _ _ _ r h => by simp [bastionlaw01_PctBack.j0] at h, fun _ _ _ r h => by simp [bastionlaw01_PctBack.l0] at h⟩
  | k + 1 => by
    obtain ⟨ih0, ih1⟩ := bastionlaw01_PctBack.mono_l k
    refine ⟨?_, ?_⟩
    · intro y0 y1 y2
      unfold bastionlaw01_PctBack.j0
      repeat' first
      | (with_reducible exact ih0 _ _ _)
      | (with_reducible exact ih1 _ _ _)
      | (with_reducible exact bastionlaw01_lives.mono _)
      | (with_reducible exact pct_Decode.mono _ _)
      | (with_reducible exact pct_In.mono _ _ _)
      | (with_reducible exact LeO.refl _)
      | (with_reducible exact LeO.none _)
      | (with_reducible refine LeO.ite ?_ ?_)
      | (with_reducible refine LeO.bind ?_ (fun _ => ?_))
      | exact ih0 _ _ _
      | exact ih1 _ _ _
      | exact bastionlaw01_lives.mono _
      | exact pct_Decode.mono _ _
      | exact pct_In.mono _ _ _
      | exact LeO.none _
      | refine LeO.ite ?_ ?_
      | refine LeO.bind ?_ (fun _ => ?_)
    · intro y0 y1 y2
      unfold bastionlaw01_PctBack.l0
      repeat' first
      | (with_reducible exact ih0 _ _ _)
      | (with_reducible exact ih1 _ _ _)
      | (with_reducible exact bastionlaw01_lives.mono _)
      | (with_reducible exact pct_Decode.mono _ _)
      | (with_reducible exact pct_In.mono _ _ _)
      | (with_reducible exact LeO.refl _)
      | (with_reducible exact LeO.none _)
      | (with_reducible refine LeO.ite ?_ ?_)
      | (with_reducible refine LeO.bind ?_ (fun _ => ?_))
      | exact ih0 _ _ _
      | exact ih1 _ _ _
      | exact bastionlaw01_lives.mono _
      | exact pct_Decode.mono _ _
      | exact pct_In.mono _ _ _
      | exact LeO.none _
      | refine LeO.ite ?_ ?_
      | refine LeO.bind ?_ (fun _ => ?_)
theorem bastionlaw01_PctBack.mono : ∀ a0 a1 k, LeO (bastionlaw01_PctBack.f k a0 a1) (bastionlaw01_PctBack.f (k + 1) a0 a1) := by
  intro a0 a1 k
  obtain ⟨ih0, ih1⟩ := bastionlaw01_PctBack.mono_l k
  unfold bastionlaw01_PctBack.f
  repeat' first
      | (with_reducible exact ih0 _ _ _)
      | (with_reducible exact ih1 _ _ _)
      | (with_reducible exact bastionlaw01_lives.mono _)
      | (with_reducible exact pct_Decode.mono _ _)
      | (with_reducible exact pct_In.mono _ _ _)
      | (with_reducible exact LeO.refl _)
      | (with_reducible exact LeO.none _)
      | (with_reducible refine LeO.ite ?_ ?_)
      | (with_reducible refine LeO.bind ?_ (fun _ => ?_))
      | exact ih0 _ _ _
      | exact ih1 _ _ _
      | exact bastionlaw01_lives.mono _
      | exact pct_Decode.mono _ _
      | exact pct_In.mono _ _ _
      | exact LeO.none _
      | refine LeO.ite ?_ ?_
      | refine LeO.bind ?_ (fun _ => ?_)
set_option maxHeartbeats 8000000 in
set_option maxRecDepth 100000 in
theorem bastionlaw01_PctBack.calls (k : Nat) (a0 : ByteArray) (a1 : Int) (r : Bool) (w : World) (h : bastionlaw01_PctBack.f k a0 a1 = some r) :
    Calls Try.prog 5 #[.string a0, .int .u8 a1] w fun e w' => e = .returned (.bool r) ∧ Below w.heap.size w w' := by
  have HB := Aside0.mk (Below.refl w.heap.size w)
  have H : ((bastionlaw01_lives.f k).bind fun t221 => (if t221 = true then ((pct_Encode.f a0 a1).bind fun bt222 => (if bt222.2 = 0 then ((pct_Encode.f bt222.1 a1).bind fun bt224 => ((pct_In.f k a1 37).bind fun t226 => (if bt224.2 = 0 then (if t226 = true then ((pct_Decode.f k bt222.1).bind fun t227 => (if t227.toList = a0.toList then (bastionlaw01_PctBack.j0 k a1 bt222.1 false) else (bastionlaw01_PctBack.j0 k a1 bt222.1 true))) else (if bt224.1.toList = bt222.1.toList then ((pct_Decode.f k bt222.1).bind fun t228 => ((pct_Decode.f k a0).bind fun t229 => (bastionlaw01_PctBack.j0 k a1 bt222.1 (t228.toList != t229.toList)))) else (bastionlaw01_PctBack.j0 k a1 bt222.1 true))) else (bastionlaw01_PctBack.j0 k a1 bt222.1 true)))) else (some (bt222.1.toList == ([] : List UInt8))))) else (some false))) = some r := h
  clear h
  replace H := Option.bind_eq_some_iff.mp H
  obtain ⟨t221, A30, H⟩ := H
  replace H : (if t221 = true then ((pct_Encode.f a0 a1).bind fun bt222 => (if bt222.2 = 0 then ((pct_Encode.f bt222.1 a1).bind fun bt224 => ((pct_In.f k a1 37).bind fun t226 => (if bt224.2 = 0 then (if t226 = true then ((pct_Decode.f k bt222.1).bind fun t227 => (if t227.toList = a0.toList then (bastionlaw01_PctBack.j0 k a1 bt222.1 false) else (bastionlaw01_PctBack.j0 k a1 bt222.1 true))) else (if bt224.1.toList = bt222.1.toList then ((pct_Decode.f k bt222.1).bind fun t228 => ((pct_Decode.f k a0).bind fun t229 => (bastionlaw01_PctBack.j0 k a1 bt222.1 (t228.toList != t229.toList)))) else (bastionlaw01_PctBack.j0 k a1 bt222.1 true))) else (bastionlaw01_PctBack.j0 k a1 bt222.1 true)))) else (some (bt222.1.toList == ([] : List UInt8))))) else (some false)) = some r := H
  have A3 := Aside0.mk A30
  clear A30
  by_cases c4 : t221 = true
  · subst c4
    have H1 : ((pct_Encode.f a0 a1).bind fun bt222 => (if bt222.2 = 0 then ((pct_Encode.f bt222.1 a1).bind fun bt224 => ((pct_In.f k a1 37).bind fun t226 => (if bt224.2 = 0 then (if t226 = true then ((pct_Decode.f k bt222.1).bind fun t227 => (if t227.toList = a0.toList then (bastionlaw01_PctBack.j0 k a1 bt222.1 false) else (bastionlaw01_PctBack.j0 k a1 bt222.1 true))) else (if bt224.1.toList = bt222.1.toList then ((pct_Decode.f k bt222.1).bind fun t228 => ((pct_Decode.f k a0).bind fun t229 => (bastionlaw01_PctBack.j0 k a1 bt222.1 (t228.toList != t229.toList)))) else (bastionlaw01_PctBack.j0 k a1 bt222.1 true))) else (bastionlaw01_PctBack.j0 k a1 bt222.1 true)))) else (some (bt222.1.toList == ([] : List UInt8))))) = some r := by rw [if_pos rfl] at H; exact H
    clear H
    have H := H1
    clear H1
    replace H := Option.bind_eq_some_iff.mp H
    obtain ⟨⟨t222, t223⟩, A50, H⟩ := H
    replace H : (if t223 = 0 then ((pct_Encode.f t222 a1).bind fun bt224 => ((pct_In.f k a1 37).bind fun t226 => (if bt224.2 = 0 then (if t226 = true then ((pct_Decode.f k t222).bind fun t227 => (if t227.toList = a0.toList then (bastionlaw01_PctBack.j0 k a1 t222 false) else (bastionlaw01_PctBack.j0 k a1 t222 true))) else (if bt224.1.toList = t222.toList then ((pct_Decode.f k t222).bind fun t228 => ((pct_Decode.f k a0).bind fun t229 => (bastionlaw01_PctBack.j0 k a1 t222 (t228.toList != t229.toList)))) else (bastionlaw01_PctBack.j0 k a1 t222 true))) else (bastionlaw01_PctBack.j0 k a1 t222 true)))) else (some (t222.toList == ([] : List UInt8)))) = some r := H
    have A5 := Aside0.mk A50
    clear A50
    by_cases c6 : t223 = 0
    · rw [if_pos c6] at H
      have c6b0 : (t223 == 0) = true := beq_iff_eq.mpr c6
      have c6b1 : (t223 != 0) = false := bne_eq_false_iff_eq.mpr c6
      clear c6
      replace H := Option.bind_eq_some_iff.mp H
      obtain ⟨⟨t224, t225⟩, A70, H⟩ := H
      replace H : ((pct_In.f k a1 37).bind fun t226 => (if t225 = 0 then (if t226 = true then ((pct_Decode.f k t222).bind fun t227 => (if t227.toList = a0.toList then (bastionlaw01_PctBack.j0 k a1 t222 false) else (bastionlaw01_PctBack.j0 k a1 t222 true))) else (if t224.toList = t222.toList then ((pct_Decode.f k t222).bind fun t228 => ((pct_Decode.f k a0).bind fun t229 => (bastionlaw01_PctBack.j0 k a1 t222 (t228.toList != t229.toList)))) else (bastionlaw01_PctBack.j0 k a1 t222 true))) else (bastionlaw01_PctBack.j0 k a1 t222 true))) = some r := H
      have A7 := Aside0.mk A70
      clear A70
      replace H := Option.bind_eq_some_iff.mp H
      obtain ⟨t226, A80, H⟩ := H
      replace H : (if t225 = 0 then (if t226 = true then ((pct_Decode.f k t222).bind fun t227 => (if t227.toList = a0.toList then (bastionlaw01_PctBack.j0 k a1 t222 false) else (bastionlaw01_PctBack.j0 k a1 t222 true))) else (if t224.toList = t222.toList then ((pct_Decode.f k t222).bind fun t228 => ((pct_Decode.f k a0).bind fun t229 => (bastionlaw01_PctBack.j0 k a1 t222 (t228.toList != t229.toList)))) else (bastionlaw01_PctBack.j0 k a1 t222 true))) else (bastionlaw01_PctBack.j0 k a1 t222 true)) = some r := H
      have A8 := Aside0.mk A80
      clear A80
      have HC9 := Aside0.mk H
      clear H
      go_enter Try.func5, Try.ntmps5
      go_upto_region 8 with (first | ((with_reducible refine gate_callee (f := 13) rfl ?_); refine goesL_ (some 11) rfl rfl Try.func13 (by kernel_rfl) rfl #[] rfl (by (try simp only [List.map_toArray, List.map_cons, List.map_nil]); first | done | rfl | (simp only [List.length_drop, List.length_take]; rfl)) ?_; (with_reducible refine (bastionlaw01_lives.calls k  true _ A3.out).mono ?_); rintro e w10 ⟨rfl, hb⟩; refine ⟨_, rfl, ?_⟩; have n0_ := Aside0.mk (below_step (by repeat (first | (with_reducible first | exact HB.out | apply below_alloc | apply pw_below_drewN | apply below_drew1) | exact HB.out)) hb); clear HB; have HB := n0_; clear n0_; (try clear hb); (try clear hb2); (try clear hk); (try clear hi)) | ((with_reducible refine gate_callee (f := 11) rfl ?_); refine goesL_ (some 16) rfl rfl Try.func11 (by kernel_rfl) rfl #[.string a0, .int .u8 a1] rfl (by (try simp only [List.map_toArray, List.map_cons, List.map_nil]); first | done | rfl | (simp only [List.length_drop, List.length_take]; rfl)) ?_; (with_reducible refine (pct_Encode.calls a0 a1 t222 t223 _ A5.out).mono ?_); rintro e w11 ⟨rfl, hb⟩; refine ⟨_, rfl, ?_⟩; have n0_ := Aside0.mk (below_step (by repeat (first | (with_reducible first | exact HB.out | apply below_alloc | apply pw_below_drewN | apply below_drew1) | exact HB.out)) hb); clear HB; have HB := n0_; clear n0_; (try clear hb); (try clear hb2); (try clear hk); (try clear hi)) | ((with_reducible refine gate_callee (f := 11) rfl ?_); refine goesL_ (some 26) rfl rfl Try.func11 (by kernel_rfl) rfl #[.string t222, .int .u8 a1] rfl (by (try simp only [List.map_toArray, List.map_cons, List.map_nil]); first | done | rfl | (simp only [List.length_drop, List.length_take]; rfl)) ?_; (with_reducible refine (pct_Encode.calls t222 a1 t224 t225 _ A7.out).mono ?_); rintro e w12 ⟨rfl, hb⟩; refine ⟨_, rfl, ?_⟩; have n0_ := Aside0.mk (below_step (by repeat (first | (with_reducible first | exact HB.out | apply below_alloc | apply pw_below_drewN | apply below_drew1) | exact HB.out)) hb); clear HB; have HB := n0_; clear n0_; (try clear hb); (try clear hb2); (try clear hk); (try clear hi)) | ((with_reducible refine gate_callee (f := 14) rfl ?_); refine goesL_ (some 30) rfl rfl Try.func14 (by kernel_rfl) rfl #[.int .u8 a1, .int .u8 37] rfl (by (try simp only [List.map_toArray, List.map_cons, List.map_nil]); first | done | rfl | (simp only [List.length_drop, List.length_take]; rfl)) ?_; (with_reducible refine (pct_In.calls k a1 37 t226 _ A8.out).mono ?_); rintro e w13 ⟨rfl, hb⟩; refine ⟨_, rfl, ?_⟩; have n0_ := Aside0.mk (below_step (by repeat (first | (with_reducible first | exact HB.out | apply below_alloc | apply pw_below_drewN | apply below_drew1) | exact HB.out)) hb); clear HB; have HB := n0_; clear n0_; (try clear hb); (try clear hb2); (try clear hk); (try clear hi)))
      (try simp only [Act.put, List.setIfInBounds_toArray, List.set_cons_zero, List.set_cons_succ])
      go_cut [61] (fun v61 wc => ∃ (kq : Nat) (x61_8 : Bool), v61 = .bool x61_8 ∧ Aside0 (bastionlaw01_PctBack.j0 kq a1 t222 x61_8 = some r) ∧ Aside0 (kq ≤ k) ∧ Aside0 (Below w.heap.size w wc))
      case first =>
        have H := HC9.out
        clear HC9
        by_cases c14 : t225 = 0
        · rw [if_pos c14] at H
          have c14b0 : (t225 == 0) = true := beq_iff_eq.mpr c14
          have c14b1 : (t225 != 0) = false := bne_eq_false_iff_eq.mpr c14
          clear c14
          (first | rw [c14b0] | (simp only [i64_w, i32_w]; rw [c14b0]) | skip)
          by_cases c15 : t226 = true
          · subst c15
            have H1 : ((pct_Decode.f k t222).bind fun t227 => (if t227.toList = a0.toList then (bastionlaw01_PctBack.j0 k a1 t222 false) else (bastionlaw01_PctBack.j0 k a1 t222 true))) = some r := by rw [if_pos rfl] at H; exact H
            clear H
            have H := H1
            clear H1
            replace H := Option.bind_eq_some_iff.mp H
            obtain ⟨t227, A160, H⟩ := H
            replace H : (if t227.toList = a0.toList then (bastionlaw01_PctBack.j0 k a1 t222 false) else (bastionlaw01_PctBack.j0 k a1 t222 true)) = some r := H
            have A16 := Aside0.mk A160
            clear A160
            by_cases c17 : t227.toList = a0.toList
            · rw [if_pos c17] at H
              have c17b0 : (t227.toList == a0.toList) = true := beq_iff_eq.mpr c17
              have c17b1 : (t227.toList != a0.toList) = false := bne_eq_false_iff_eq.mpr c17
              clear c17
              have H' := Aside0.mk H
              clear H
              go_wp2_with (first | (go_at_call 16; (with_reducible refine (pct_Decode.calls k t222 t227 _ A16.out).mono ?_); rintro e w18 ⟨rfl, hb⟩; have n0_ := Aside0.mk (below_step (by repeat (first | (with_reducible first | exact HB.out | apply below_alloc | apply pw_below_drewN | apply below_drew1) | exact HB.out)) hb); clear HB; have HB := n0_; clear n0_; (try clear hb); (try clear hb2); (try clear hk); (try clear hi)))
              go_meet
              case rel => exact ⟨_, (false), (by first | rfl | (simp; done) | (simp [*]; done)), H', ⟨by first | omega | exact Nat.le_refl _⟩, ⟨by repeat (first | (with_reducible first | exact HB.out | apply below_alloc | apply pw_below_drewN | apply below_drew1) | exact HB.out)⟩⟩
            · rw [if_neg c17] at H
              have c17b0 : (t227.toList == a0.toList) = false := beq_eq_false_iff_ne.mpr c17
              have c17b1 : (t227.toList != a0.toList) = true := bne_iff_ne.mpr c17
              have H' := Aside0.mk H
              clear H
              go_wp2_with (first | (go_at_call 16; (with_reducible refine (pct_Decode.calls k t222 t227 _ A16.out).mono ?_); rintro e w19 ⟨rfl, hb⟩; have n0_ := Aside0.mk (below_step (by repeat (first | (with_reducible first | exact HB.out | apply below_alloc | apply pw_below_drewN | apply below_drew1) | exact HB.out)) hb); clear HB; have HB := n0_; clear n0_; (try clear hb); (try clear hb2); (try clear hk); (try clear hi)))
              go_meet
              case rel => exact ⟨_, (true), (by first | rfl | (simp; done) | (simp [*]; done)), H', ⟨by first | omega | exact Nat.le_refl _⟩, ⟨by repeat (first | (with_reducible first | exact HB.out | apply below_alloc | apply pw_below_drewN | apply below_drew1) | exact HB.out)⟩⟩
          · replace c15 := Bool.eq_false_iff.mpr c15
            subst c15
            have H1 : (if t224.toList = t222.toList then ((pct_Decode.f k t222).bind fun t228 => ((pct_Decode.f k a0).bind fun t229 => (bastionlaw01_PctBack.j0 k a1 t222 (t228.toList != t229.toList)))) else (bastionlaw01_PctBack.j0 k a1 t222 true)) = some r := by rw [if_neg (show ¬ (false = true) by decide)] at H; exact H
            clear H
            have H := H1
            clear H1
            by_cases c20 : t224.toList = t222.toList
            · rw [if_pos c20] at H
              have c20b0 : (t224.toList == t222.toList) = true := beq_iff_eq.mpr c20
              have c20b1 : (t224.toList != t222.toList) = false := bne_eq_false_iff_eq.mpr c20
              clear c20
              replace H := Option.bind_eq_some_iff.mp H
              obtain ⟨t228, A210, H⟩ := H
              replace H : ((pct_Decode.f k a0).bind fun t229 => (bastionlaw01_PctBack.j0 k a1 t222 (t228.toList != t229.toList))) = some r := H
              have A21 := Aside0.mk A210
              clear A210
              replace H := Option.bind_eq_some_iff.mp H
              obtain ⟨t229, A220, H⟩ := H
              replace H : (bastionlaw01_PctBack.j0 k a1 t222 (t228.toList != t229.toList)) = some r := H
              have A22 := Aside0.mk A220
              clear A220
              have H' := Aside0.mk H
              clear H
              go_wp2_with (first | (go_at_call 16; (with_reducible refine (pct_Decode.calls k t222 t228 _ A21.out).mono ?_); rintro e w23 ⟨rfl, hb⟩; have n0_ := Aside0.mk (below_step (by repeat (first | (with_reducible first | exact HB.out | apply below_alloc | apply pw_below_drewN | apply below_drew1) | exact HB.out)) hb); clear HB; have HB := n0_; clear n0_; (try clear hb); (try clear hb2); (try clear hk); (try clear hi)) | (go_at_call 16; (with_reducible refine (pct_Decode.calls k a0 t229 _ A22.out).mono ?_); rintro e w24 ⟨rfl, hb⟩; have n0_ := Aside0.mk (below_step (by repeat (first | (with_reducible first | exact HB.out | apply below_alloc | apply pw_below_drewN | apply below_drew1) | exact HB.out)) hb); clear HB; have HB := n0_; clear n0_; (try clear hb); (try clear hb2); (try clear hk); (try clear hi)))
              go_meet
              case rel => exact ⟨_, ((t228.toList != t229.toList)), (by first | rfl | (simp; done) | (simp [*]; done)), H', ⟨by first | omega | exact Nat.le_refl _⟩, ⟨by repeat (first | (with_reducible first | exact HB.out | apply below_alloc | apply pw_below_drewN | apply below_drew1) | exact HB.out)⟩⟩
            · rw [if_neg c20] at H
              have c20b0 : (t224.toList == t222.toList) = false := beq_eq_false_iff_ne.mpr c20
              have c20b1 : (t224.toList != t222.toList) = true := bne_iff_ne.mpr c20
              have H' := Aside0.mk H
              clear H
              go_wp2
              go_meet
              case rel => exact ⟨_, (true), (by first | rfl | (simp; done) | (simp [*]; done)), H', ⟨by first | omega | exact Nat.le_refl _⟩, ⟨by repeat (first | (with_reducible first | exact HB.out | apply below_alloc | apply pw_below_drewN | apply below_drew1) | exact HB.out)⟩⟩
        · rw [if_neg c14] at H
          have c14b0 : (t225 == 0) = false := beq_eq_false_iff_ne.mpr c14
          have c14b1 : (t225 != 0) = true := bne_iff_ne.mpr c14
          (first | rw [c14b0] | (simp only [i64_w, i32_w]; rw [c14b0]) | skip)
          have H' := Aside0.mk H
          clear H
          go_wp2
          go_meet
          case rel => exact ⟨_, (true), (by first | rfl | (simp; done) | (simp [*]; done)), H', ⟨by first | omega | exact Nat.le_refl _⟩, ⟨by repeat (first | (with_reducible first | exact HB.out | apply below_alloc | apply pw_below_drewN | apply below_drew1) | exact HB.out)⟩⟩
      case rest =>
        clear HC9
        try clear c1
        try clear c2
        try clear p2
        try clear c4
        try clear c5
        try clear c6
        try clear c6b0
        try clear c6b1
        try clear c11
        try clear c13
        try clear c14
        try clear c14b0
        try clear c14b1
        try clear c15
        try clear c17
        try clear c17b0
        try clear c17b1
        try clear c20
        try clear c20b0
        try clear c20b1
        obtain ⟨kq, x61_8, rfl, HA, HJ8, HB⟩ := hcut
        cases kq with
        | zero => exact absurd HA.out (by simp [bastionlaw01_PctBack.j0])
        | succ kj8 =>
          have H := HA.out
          clear HA
          simp only [bastionlaw01_PctBack.j0] at H
          by_cases c25 : x61_8 = true
          · subst c25
            have H1 : (some false) = some r := by rw [if_pos rfl] at H; exact H
            clear H
            have H := H1
            clear H1
            obtain rfl := Option.some.inj H
            go_wp2
            go_ret
            exact ⟨by first | rfl | (simp [errW_none, errW_some] <;> rfl) | (simp [*, errW_none, errW_some] <;> rfl), by repeat (first | (with_reducible first | exact HB.out | apply below_alloc | apply pw_below_drewN | apply below_drew1) | exact HB.out)⟩
          · replace c25 := Bool.eq_false_iff.mpr c25
            subst c25
            have H1 : (bastionlaw01_PctBack.l0 kj8 a1 t222 0) = some r := by rw [if_neg (show ¬ (false = true) by decide)] at H; exact H
            clear H
            have H := H1
            clear H1
            have H' := Aside0.mk H
            clear H
            go_wp2
            go_loopg [10] kj8 (fun kq v10 w' => ∃ (x10_2 : Int), v10 = .int .i64 x10_2 ∧ Aside0 (bastionlaw01_PctBack.l0 kq a1 t222 x10_2 = some r) ∧ Aside0 (kq ≤ kj8) ∧ Aside0 (Below w.heap.size w w'))
            case atStart => exact ⟨(0), (by first | rfl | (simp; done) | (simp [*]; done)), H', ⟨Nat.le_refl _⟩, ⟨by repeat (first | (with_reducible first | exact HB.out | apply below_alloc | apply pw_below_drewN | apply below_drew1) | exact HB.out)⟩⟩
            case round =>
              clear H'
              try clear c1
              try clear c2
              try clear p2
              try clear c4
              try clear c5
              try clear c6
              try clear c6b0
              try clear c6b1
              try clear c11
              try clear c13
              try clear c14
              try clear c14b0
              try clear c14b1
              try clear c15
              try clear c17
              try clear c17b0
              try clear c17b1
              try clear c20
              try clear c20b0
              try clear c20b1
              try clear c25
              try clear p2
              obtain ⟨x10_2, rfl, HA, HK2, HB⟩ := hrel
              cases gk with
              | zero => exact absurd HA.out (by simp [bastionlaw01_PctBack.l0])
              | succ k2 =>
                have H := HA.out
                clear HA
                simp only [bastionlaw01_PctBack.l0] at H
                by_cases c26 : x10_2 < (t222.size : Int)
                · rw [if_pos c26] at H
                  have c26b0 : decide (x10_2 < (t222.size : Int)) = true := decide_eq_true c26
                  clear c26
                  by_cases c27 : 0 ≤ x10_2
                  · rw [if_pos c27] at H
                    have c27b0 : decide (0 ≤ x10_2) = true := decide_eq_true c27
                    clear c27
                    by_cases c29 : (bt t222 x10_2) = 37
                    · rw [if_pos c29] at H
                      have c29b0 : ((bt t222 x10_2) == 37) = true := beq_iff_eq.mpr c29
                      have c29b1 : ((bt t222 x10_2) != 37) = false := bne_eq_false_iff_eq.mpr c29
                      clear c29
                      have H' := Aside0.mk H
                      clear H
                      have p28 : 0 ≤ (x10_2 : Int) := of_decide_eq_true (by first | (with_reducible assumption) | assumption)
                      have q28 : x10_2 < (t222.size : Int) := of_decide_eq_true (by first | (with_reducible assumption) | assumption)
                      have hx28 := bt_at t222 x10_2
                      replace p28 := eq_true p28
                      replace q28 := eq_true q28
                      go_wp2
                      go_roundg k2
                      case measure => have := HJ8.out; have := HK2.out; omega
                      case rel => exact ⟨(wrap64 (x10_2 + 1)), (by first | rfl | (simp; done) | (simp [*]; done)), H', ⟨by have := HJ8.out; have := HK2.out; omega⟩, ⟨by repeat (first | (with_reducible first | exact HB.out | apply below_alloc | apply pw_below_drewN | apply below_drew1) | exact HB.out)⟩⟩
                    · rw [if_neg c29] at H
                      have c29b0 : ((bt t222 x10_2) == 37) = false := beq_eq_false_iff_ne.mpr c29
                      have c29b1 : ((bt t222 x10_2) != 37) = true := bne_iff_ne.mpr c29
                      replace H := Option.bind_eq_some_iff.mp H
                      obtain ⟨t230, A310, H⟩ := H
                      replace H : (if t230 = true then (some false) else (bastionlaw01_PctBack.l0 k2 a1 t222 (wrap64 (x10_2 + 1)))) = some r := H
                      have A31 := Aside0.mk A310
                      clear A310
                      by_cases c32 : t230 = true
                      · subst c32
                        have H1 : (some false) = some r := by rw [if_pos rfl] at H; exact H
                        clear H
                        have H := H1
                        clear H1
                        obtain rfl := Option.some.inj H
                        have p28 : 0 ≤ (x10_2 : Int) := of_decide_eq_true (by first | (with_reducible assumption) | assumption)
                        have q28 : x10_2 < (t222.size : Int) := of_decide_eq_true (by first | (with_reducible assumption) | assumption)
                        have hx28 := bt_at t222 x10_2
                        replace p28 := eq_true p28
                        replace q28 := eq_true q28
                        have p30 : 0 ≤ (x10_2 : Int) := of_decide_eq_true (by first | (with_reducible assumption) | assumption)
                        have q30 : x10_2 < (t222.size : Int) := of_decide_eq_true (by first | (with_reducible assumption) | assumption)
                        have hx30 := bt_at t222 x10_2
                        replace p30 := eq_true p30
                        replace q30 := eq_true q30
                        go_wp2_with (first | (go_at_call 14; (with_reducible refine (pct_In.calls k2 a1 (bt t222 x10_2) true _ A31.out).mono ?_); rintro e w33 ⟨rfl, hb⟩; have n0_ := Aside0.mk (below_step (by repeat (first | (with_reducible first | exact HB.out | apply below_alloc | apply pw_below_drewN | apply below_drew1) | exact HB.out)) hb); clear HB; have HB := n0_; clear n0_; (try clear hb); (try clear hb2); (try clear hk); (try clear hi)))
                        go_ret
                        exact ⟨by first | rfl | (simp [errW_none, errW_some] <;> rfl) | (simp [*, errW_none, errW_some] <;> rfl), by repeat (first | (with_reducible first | exact HB.out | apply below_alloc | apply pw_below_drewN | apply below_drew1) | exact HB.out)⟩
                      · replace c32 := Bool.eq_false_iff.mpr c32
                        subst c32
                        have H1 : (bastionlaw01_PctBack.l0 k2 a1 t222 (wrap64 (x10_2 + 1))) = some r := by rw [if_neg (show ¬ (false = true) by decide)] at H; exact H
                        clear H
                        have H := H1
                        clear H1
                        have H' := Aside0.mk H
                        clear H
                        have p28 : 0 ≤ (x10_2 : Int) := of_decide_eq_true (by first | (with_reducible assumption) | assumption)
                        have q28 : x10_2 < (t222.size : Int) := of_decide_eq_true (by first | (with_reducible assumption) | assumption)
                        have hx28 := bt_at t222 x10_2
                        replace p28 := eq_true p28
                        replace q28 := eq_true q28
                        have p30 : 0 ≤ (x10_2 : Int) := of_decide_eq_true (by first | (with_reducible assumption) | assumption)
                        have q30 : x10_2 < (t222.size : Int) := of_decide_eq_true (by first | (with_reducible assumption) | assumption)
                        have hx30 := bt_at t222 x10_2
                        replace p30 := eq_true p30
                        replace q30 := eq_true q30
                        go_wp2_with (first | (go_at_call 14; (with_reducible refine (pct_In.calls k2 a1 (bt t222 x10_2) false _ A31.out).mono ?_); rintro e w34 ⟨rfl, hb⟩; have n0_ := Aside0.mk (below_step (by repeat (first | (with_reducible first | exact HB.out | apply below_alloc | apply pw_below_drewN | apply below_drew1) | exact HB.out)) hb); clear HB; have HB := n0_; clear n0_; (try clear hb); (try clear hb2); (try clear hk); (try clear hi)))
                        go_roundg k2
                        case measure => have := HJ8.out; have := HK2.out; omega
                        case rel => exact ⟨(wrap64 (x10_2 + 1)), (by first | rfl | (simp; done) | (simp [*]; done)), H', ⟨by have := HJ8.out; have := HK2.out; omega⟩, ⟨by repeat (first | (with_reducible first | exact HB.out | apply below_alloc | apply pw_below_drewN | apply below_drew1) | exact HB.out)⟩⟩
                  · rw [if_neg c27] at H
                    exact absurd H (by simp)
                · rw [if_neg c26] at H
                  have c26b0 : decide (x10_2 < (t222.size : Int)) = false := decide_eq_false c26
                  clear c26
                  obtain rfl := Option.some.inj H
                  go_wp2
                  go_ret
                  exact ⟨by first | rfl | (simp [errW_none, errW_some] <;> rfl) | (simp [*, errW_none, errW_some] <;> rfl), by repeat (first | (with_reducible first | exact HB.out | apply below_alloc | apply pw_below_drewN | apply below_drew1) | exact HB.out)⟩
    · rw [if_neg c6] at H
      have c6b0 : (t223 == 0) = false := beq_eq_false_iff_ne.mpr c6
      have c6b1 : (t223 != 0) = true := bne_iff_ne.mpr c6
      obtain rfl := Option.some.inj H
      go_enter Try.func5, Try.ntmps5
      go_wp2_with (first | ((with_reducible refine gate_callee (f := 13) rfl ?_); refine goesL_ (some 11) rfl rfl Try.func13 (by kernel_rfl) rfl #[] rfl (by (try simp only [List.map_toArray, List.map_cons, List.map_nil]); first | done | rfl | (simp only [List.length_drop, List.length_take]; rfl)) ?_; (with_reducible refine (bastionlaw01_lives.calls k  true _ A3.out).mono ?_); rintro e w35 ⟨rfl, hb⟩; refine ⟨_, rfl, ?_⟩; have n0_ := Aside0.mk (below_step (by repeat (first | (with_reducible first | exact HB.out | apply below_alloc | apply pw_below_drewN | apply below_drew1) | exact HB.out)) hb); clear HB; have HB := n0_; clear n0_; (try clear hb); (try clear hb2); (try clear hk); (try clear hi)) | ((with_reducible refine gate_callee (f := 11) rfl ?_); refine goesL_ (some 16) rfl rfl Try.func11 (by kernel_rfl) rfl #[.string a0, .int .u8 a1] rfl (by (try simp only [List.map_toArray, List.map_cons, List.map_nil]); first | done | rfl | (simp only [List.length_drop, List.length_take]; rfl)) ?_; (with_reducible refine (pct_Encode.calls a0 a1 t222 t223 _ A5.out).mono ?_); rintro e w36 ⟨rfl, hb⟩; refine ⟨_, rfl, ?_⟩; have n0_ := Aside0.mk (below_step (by repeat (first | (with_reducible first | exact HB.out | apply below_alloc | apply pw_below_drewN | apply below_drew1) | exact HB.out)) hb); clear HB; have HB := n0_; clear n0_; (try clear hb); (try clear hb2); (try clear hk); (try clear hi)))
      go_ret
      exact ⟨by first | rfl | (simp [errW_none, errW_some] <;> rfl) | (simp [*, errW_none, errW_some] <;> rfl), by repeat (first | (with_reducible first | exact HB.out | apply below_alloc | apply pw_below_drewN | apply below_drew1) | exact HB.out)⟩
  · replace c4 := Bool.eq_false_iff.mpr c4
    subst c4
    have H1 : (some false) = some r := by rw [if_neg (show ¬ (false = true) by decide)] at H; exact H
    clear H
    have H := H1
    clear H1
    obtain rfl := Option.some.inj H
    go_enter Try.func5, Try.ntmps5
    go_wp2_with (first | ((with_reducible refine gate_callee (f := 13) rfl ?_); refine goesL_ (some 11) rfl rfl Try.func13 (by kernel_rfl) rfl #[] rfl (by (try simp only [List.map_toArray, List.map_cons, List.map_nil]); first | done | rfl | (simp only [List.length_drop, List.length_take]; rfl)) ?_; (with_reducible refine (bastionlaw01_lives.calls k  false _ A3.out).mono ?_); rintro e w37 ⟨rfl, hb⟩; refine ⟨_, rfl, ?_⟩; have n0_ := Aside0.mk (below_step (by repeat (first | (with_reducible first | exact HB.out | apply below_alloc | apply pw_below_drewN | apply below_drew1) | exact HB.out)) hb); clear HB; have HB := n0_; clear n0_; (try clear hb); (try clear hb2); (try clear hk); (try clear hi)))
    go_ret
    exact ⟨by first | rfl | (simp [errW_none, errW_some] <;> rfl) | (simp [*, errW_none, errW_some] <;> rfl), by repeat (first | (with_reducible first | exact HB.out | apply below_alloc | apply pw_below_drewN | apply below_drew1) | exact HB.out)⟩

/-- THE ONE PURE STATEMENT of bastionlaw01_PctBack: yours. -/
def bastionlaw01_PctBack.Pure : Prop := ∀ (a0 : ByteArray) (a1 : Int), a0.size ≤ 140737488351232 → (Lit.int .u8 a1).wf = true → ∃ k, bastionlaw01_PctBack.f k a0 a1 = some true
theorem bastionlaw01_PctBack.walk (P : bastionlaw01_PctBack.Pure) (a0 : ByteArray) (a1 : Int) (w : World) (w0 : a0.size ≤ 140737488351232) (w1 : (Lit.int .u8 a1).wf = true) :
    Calls Try.prog 5 #[.string a0, .int .u8 a1] w fun e w' => e = .returned (.bool true) ∧ Below w.heap.size w w' := by
  obtain ⟨k, h⟩ := P a0 a1 w0 w1
  refine (bastionlaw01_PctBack.calls k a0 a1 true w h).mono ?_
  rintro e w' ⟨rfl, hd⟩
  exact ⟨rfl, hd⟩

end Go.Proofs.Ytiobcjgolmiabaa.Q
