/- Functions of the given program as plain Lean functions, each with the proof that the machine answers as it does; laid by a program of mine over the kit print. -/
import Derived.Test.YtiobcjgolmiabaaDoorQbase
import Derived.Test.YtiobcjgolmiabaaDoorQbastionlaw021
import Derived.Test.YtiobcjgolmiabaaDoorQbastionref020
import Derived.Test.YtiobcjgolmiabaaDoorQutf1
import Derived.Test.YtiobcjgolmiabaaDoorUDec
import Derived.Test.YtiobcjgolmiabaaDoorUEnc
import Derived.Test.YtiobcjgolmiabaaDoorUVal
namespace Go.Proofs.YtiobcjgolmiabaaDoor.Q
open Go.RowKit Go.Proofs.YtiobcjgolmiabaaDoorW.PrintWords Go.Proofs.YtiobcjgolmiabaaDoorW.PrintLast Go.Proofs.YtiobcjgolmiabaaDoorW.PrintMore
attribute [local go_sem] max2_int min2_int max_two min_two max_three min_three max_four min_four
set_option linter.unusedVariables false
set_option linter.unusedSimpArgs false

/-! ### bastionlaw02_UtfBack: function 7 -/
mutual
def bastionlaw02_UtfBack.j0 : Nat → List Int → ByteArray → ByteArray → List Int → Bool → Option (Bool)
  | 0, _, _, _, _, _ => none
  | k + 1, x0, x1, x5, x6, x36 => if x36 = true then (some false) else (bastionlaw02_UtfBack.l0 k x1 x5 x6 0 x0 (x0.length : Int) 0)
def bastionlaw02_UtfBack.l0 : Nat → ByteArray → ByteArray → List Int → Int → List Int → Int → Int → Option (Bool)
  | 0, _, _, _, _, _, _, _ => none
  | k + 1, x1, x5, x6, x7, x37, x38, x39 => if x39 < x38 then (if 0 ≤ x39 then (if x39 < (x37.length : Int) then (if (rd x37 x39) ≥ 0 then (if (rd x37 x39) < 55296 then (if x39 < (x6.length : Int) then (if (rd x6 x39) = (rd x37 x39) then ((utf_Width.f (rd x37 x39)).bind fun t310 => (bastionlaw02_UtfBack.l0 k x1 x5 x6 (wrap64 (x7 + t310)) x37 x38 (wrap64 (x39 + 1)))) else (some false)) else (none)) else (if (rd x37 x39) > 57343 then (if (rd x37 x39) ≤ 1114111 then (if x39 < (x6.length : Int) then (if (rd x6 x39) = (rd x37 x39) then (if ((rd x37 x39) ≤ 1114111) then ((utf_Width.f (rd x37 x39)).bind fun t312 => (bastionlaw02_UtfBack.l0 k x1 x5 x6 (wrap64 (x7 + t312)) x37 x38 (wrap64 (x39 + 1)))) else (if (rd x6 x39) = 65533 then ((utf_Width.f (rd x37 x39)).bind fun t314 => (bastionlaw02_UtfBack.l0 k x1 x5 x6 (wrap64 (x7 + t314)) x37 x38 (wrap64 (x39 + 1)))) else (some false))) else (some false)) else (none)) else (if ((rd x37 x39) ≤ 1114111) then ((utf_Width.f (rd x37 x39)).bind fun t315 => (bastionlaw02_UtfBack.l0 k x1 x5 x6 (wrap64 (x7 + t315)) x37 x38 (wrap64 (x39 + 1)))) else (if x39 < (x6.length : Int) then (if (rd x6 x39) = 65533 then ((utf_Width.f (rd x37 x39)).bind fun t317 => (bastionlaw02_UtfBack.l0 k x1 x5 x6 (wrap64 (x7 + t317)) x37 x38 (wrap64 (x39 + 1)))) else (some false)) else (none)))) else (if x39 < (x6.length : Int) then (if (rd x6 x39) = 65533 then ((utf_Width.f (rd x37 x39)).bind fun t319 => (bastionlaw02_UtfBack.l0 k x1 x5 x6 (wrap64 (x7 + t319)) x37 x38 (wrap64 (x39 + 1)))) else (some false)) else (none)))) else (if (rd x37 x39) > 57343 then (if (rd x37 x39) ≤ 1114111 then (if x39 < (x6.length : Int) then (if (rd x6 x39) = (rd x37 x39) then (if ((rd x37 x39) ≤ 1114111) then ((utf_Width.f (rd x37 x39)).bind fun t321 => (bastionlaw02_UtfBack.l0 k x1 x5 x6 (wrap64 (x7 + t321)) x37 x38 (wrap64 (x39 + 1)))) else (if (rd x6 x39) = 65533 then ((utf_Width.f (rd x37 x39)).bind fun t323 => (bastionlaw02_UtfBack.l0 k x1 x5 x6 (wrap64 (x7 + t323)) x37 x38 (wrap64 (x39 + 1)))) else (some false))) else (some false)) else (none)) else (if ((rd x37 x39) ≤ 1114111) then ((utf_Width.f (rd x37 x39)).bind fun t324 => (bastionlaw02_UtfBack.l0 k x1 x5 x6 (wrap64 (x7 + t324)) x37 x38 (wrap64 (x39 + 1)))) else (if x39 < (x6.length : Int) then (if (rd x6 x39) = 65533 then ((utf_Width.f (rd x37 x39)).bind fun t326 => (bastionlaw02_UtfBack.l0 k x1 x5 x6 (wrap64 (x7 + t326)) x37 x38 (wrap64 (x39 + 1)))) else (some false)) else (none)))) else (if x39 < (x6.length : Int) then (if (rd x6 x39) = 65533 then ((utf_Width.f (rd x37 x39)).bind fun t328 => (bastionlaw02_UtfBack.l0 k x1 x5 x6 (wrap64 (x7 + t328)) x37 x38 (wrap64 (x39 + 1)))) else (some false)) else (none)))) else (none)) else (none)) else ((utf_Decode.f x1).bind fun t329 => (if x5.size + x1.size ≤ 9223372036854775807 then ((utf_Decode.f (x5 ++ x1)).bind fun t332 => (if x7 = (x5.size : Int) then ((some (([] : List Int) : List Int)).bind fun y335 => (if y335.length + x6.length < 35184372088832 then ((some (y335 ++ x6 : List Int)).bind fun y338 => (if y338.length + t329.length < 35184372088832 then ((bastionref02_Same.f k (y338 ++ t329) t332).bind fun t344 => (bastionlaw02_UtfBack.j2 k x1 t329 (!t344))) else (none))) else (none))) else (bastionlaw02_UtfBack.j2 k x1 t329 true))) else (none)))
def bastionlaw02_UtfBack.j2 : Nat → ByteArray → List Int → Bool → Option (Bool)
  | 0, _, _, _ => none
  | k + 1, x1, x11, x102 => if x102 = true then (some false) else (bastionlaw02_UtfBack.l1 k x1 x11 (x11.length : Int) 0)
def bastionlaw02_UtfBack.l1 : Nat → ByteArray → List Int → Int → Int → Option (Bool)
  | 0, _, _, _, _ => none
  | k + 1, x1, x11, x104, x105 => if x105 < x104 then (if 0 ≤ x105 then (if x105 < (x11.length : Int) then (bastionlaw02_UtfBack.l1 k x1 (x11.set (x105 : Int).toNat 120) x104 (wrap64 (x105 + 1))) else (none)) else (none)) else ((utf_Scalar.f x1).bind fun t346 => ((utf_Valid.f t346).bind fun t347 => (if t347 = true then ((utf_Scalar.f t346).bind fun t348 => (if t348.toList = t346.toList then ((utf_Valid.f x1).bind fun t349 => (if ((t346.toList == x1.toList) == t349) = true then ((utf_Decode.f x1).bind fun t350 => ((utf_Encode.f t350).bind fun t353 => (some (t353.toList == t346.toList)))) else (some false))) else (some false))) else (some false))))
end
def bastionlaw02_UtfBack.f (k : Nat) (l0 : List Int) (a1 : ByteArray) : Option (Bool) := (bastionlaw02_lives.f k).bind fun t301 => (if t301 = true then ((utf_Encode.f l0).bind fun t302 => ((utf_Decode.f t302).bind fun t303 => (if (t303.length : Int) = (l0.length : Int) then ((utf_Valid.f t302).bind fun t306 => (if t306 = true then ((utf_Scalar.f t302).bind fun t307 => (bastionlaw02_UtfBack.j0 k l0 a1 t302 t303 (t307.toList != t302.toList))) else (bastionlaw02_UtfBack.j0 k l0 a1 t302 t303 true))) else (bastionlaw02_UtfBack.j0 k l0 a1 t302 t303 true)))) else (some false))
theorem bastionlaw02_UtfBack.mono_l : ∀ k, (∀ y0 y1 y2 y3 y4, LeO (bastionlaw02_UtfBack.j0 k y0 y1 y2 y3 y4) (bastionlaw02_UtfBack.j0 (k + 1) y0 y1 y2 y3 y4)) ∧ (∀ y0 y1 y2 y3 y4 y5 y6, LeO (bastionlaw02_UtfBack.l0 k y0 y1 y2 y3 y4 y5 y6) (bastionlaw02_UtfBack.l0 (k + 1) y0 y1 y2 y3 y4 y5 y6)) ∧ (∀ y0 y1 y2, LeO (bastionlaw02_UtfBack.j2 k y0 y1 y2) (bastionlaw02_UtfBack.j2 (k + 1) y0 y1 y2)) ∧ (∀ y0 y1 y2 y3, LeO (bastionlaw02_UtfBack.l1 k y0 y1 y2 y3) (bastionlaw02_UtfBack.l1 (k + 1) y0 y1 y2 y3))
  | 0 => ⟨fun _ _ _ _ _ r h => by simp [bastionlaw02_UtfBack.j0] at h, fun _ _ _ _ _ _ _ r h => by simp [bastionlaw02_UtfBack.l0] at h, fun _ _ _ r h => by simp [bastionlaw02_UtfBack.j2] at h, fun _ _ _ _ r h => by simp [bastionlaw02_UtfBack.l1] at h⟩
  | k + 1 => by
    obtain ⟨ih0, ih1, ih2, ih3⟩ := bastionlaw02_UtfBack.mono_l k
    refine ⟨?_, ?_, ?_, ?_⟩
    · intro y0 y1 y2 y3 y4
      unfold bastionlaw02_UtfBack.j0
      repeat' first
      | (with_reducible exact ih0 _ _ _ _ _)
      | (with_reducible exact ih1 _ _ _ _ _ _ _)
      | (with_reducible exact ih2 _ _ _)
      | (with_reducible exact ih3 _ _ _ _)
      | (with_reducible exact bastionlaw02_lives.mono _)
      | (with_reducible exact bastionref02_Same.mono _ _ _)
      | (with_reducible exact LeO.refl _)
      | (with_reducible exact LeO.none _)
      | (with_reducible refine LeO.ite ?_ ?_)
      | (with_reducible refine LeO.bind ?_ (fun _ => ?_))
      | exact ih0 _ _ _ _ _
      | exact ih1 _ _ _ _ _ _ _
      | exact ih2 _ _ _
      | exact ih3 _ _ _ _
      | exact bastionlaw02_lives.mono _
      | exact bastionref02_Same.mono _ _ _
      | exact LeO.none _
      | refine LeO.ite ?_ ?_
      | refine LeO.bind ?_ (fun _ => ?_)
    · intro y0 y1 y2 y3 y4 y5 y6
      unfold bastionlaw02_UtfBack.l0
      repeat' first
      | (with_reducible exact ih0 _ _ _ _ _)
      | (with_reducible exact ih1 _ _ _ _ _ _ _)
      | (with_reducible exact ih2 _ _ _)
      | (with_reducible exact ih3 _ _ _ _)
      | (with_reducible exact bastionlaw02_lives.mono _)
      | (with_reducible exact bastionref02_Same.mono _ _ _)
      | (with_reducible exact LeO.refl _)
      | (with_reducible exact LeO.none _)
      | (with_reducible refine LeO.ite ?_ ?_)
      | (with_reducible refine LeO.bind ?_ (fun _ => ?_))
      | exact ih0 _ _ _ _ _
      | exact ih1 _ _ _ _ _ _ _
      | exact ih2 _ _ _
      | exact ih3 _ _ _ _
      | exact bastionlaw02_lives.mono _
      | exact bastionref02_Same.mono _ _ _
      | exact LeO.none _
      | refine LeO.ite ?_ ?_
      | refine LeO.bind ?_ (fun _ => ?_)
    · intro y0 y1 y2
      unfold bastionlaw02_UtfBack.j2
      repeat' first
      | (with_reducible exact ih0 _ _ _ _ _)
      | (with_reducible exact ih1 _ _ _ _ _ _ _)
      | (with_reducible exact ih2 _ _ _)
      | (with_reducible exact ih3 _ _ _ _)
      | (with_reducible exact bastionlaw02_lives.mono _)
      | (with_reducible exact bastionref02_Same.mono _ _ _)
      | (with_reducible exact LeO.refl _)
      | (with_reducible exact LeO.none _)
      | (with_reducible refine LeO.ite ?_ ?_)
      | (with_reducible refine LeO.bind ?_ (fun _ => ?_))
      | exact ih0 _ _ _ _ _
      | exact ih1 _ _ _ _ _ _ _
      | exact ih2 _ _ _
      | exact ih3 _ _ _ _
      | exact bastionlaw02_lives.mono _
      | exact bastionref02_Same.mono _ _ _
      | exact LeO.none _
      | refine LeO.ite ?_ ?_
      | refine LeO.bind ?_ (fun _ => ?_)
    · intro y0 y1 y2 y3
      unfold bastionlaw02_UtfBack.l1
      repeat' first
      | (with_reducible exact ih0 _ _ _ _ _)
      | (with_reducible exact ih1 _ _ _ _ _ _ _)
      | (with_reducible exact ih2 _ _ _)
      | (with_reducible exact ih3 _ _ _ _)
      | (with_reducible exact bastionlaw02_lives.mono _)
      | (with_reducible exact bastionref02_Same.mono _ _ _)
      | (with_reducible exact LeO.refl _)
      | (with_reducible exact LeO.none _)
      | (with_reducible refine LeO.ite ?_ ?_)
      | (with_reducible refine LeO.bind ?_ (fun _ => ?_))
      | exact ih0 _ _ _ _ _
      | exact ih1 _ _ _ _ _ _ _
      | exact ih2 _ _ _
      | exact ih3 _ _ _ _
      | exact bastionlaw02_lives.mono _
      | exact bastionref02_Same.mono _ _ _
      | exact LeO.none _
      | refine LeO.ite ?_ ?_
      | refine LeO.bind ?_ (fun _ => ?_)
theorem bastionlaw02_UtfBack.mono : ∀ a0 a1 k, LeO (bastionlaw02_UtfBack.f k a0 a1) (bastionlaw02_UtfBack.f (k + 1) a0 a1) := by
  intro a0 a1 k
  obtain ⟨ih0, ih1, ih2, ih3⟩ := bastionlaw02_UtfBack.mono_l k
  unfold bastionlaw02_UtfBack.f
  repeat' first
      | (with_reducible exact ih0 _ _ _ _ _)
      | (with_reducible exact ih1 _ _ _ _ _ _ _)
      | (with_reducible exact ih2 _ _ _)
      | (with_reducible exact ih3 _ _ _ _)
      | (with_reducible exact bastionlaw02_lives.mono _)
      | (with_reducible exact bastionref02_Same.mono _ _ _)
      | (with_reducible exact LeO.refl _)
      | (with_reducible exact LeO.none _)
      | (with_reducible refine LeO.ite ?_ ?_)
      | (with_reducible refine LeO.bind ?_ (fun _ => ?_))
      | exact ih0 _ _ _ _ _
      | exact ih1 _ _ _ _ _ _ _
      | exact ih2 _ _ _
      | exact ih3 _ _ _ _
      | exact bastionlaw02_lives.mono _
      | exact bastionref02_Same.mono _ _ _
      | exact LeO.none _
      | refine LeO.ite ?_ ?_
      | refine LeO.bind ?_ (fun _ => ?_)
set_option maxHeartbeats 8000000 in
set_option maxRecDepth 100000 in
theorem bastionlaw02_UtfBack.calls (k : Nat) (A0 : Option Addr) (c0 : Nat) (l0 : List Int) (a1 : ByteArray) (r : Bool) (w : World) (hr0 : Kd.C (Kd.int .i32) w A0 l0.length l0) (hc0 : l0.length ≤ c0) (hT : UTabs w) (h : bastionlaw02_UtfBack.f k l0 a1 = some r) :
    Calls Tryd.prog 7 #[.slice A0 l0.length c0, .string a1] w fun e w' => e = .returned (.bool r) ∧ Below w.heap.size w w' := by
  have HR0 := Aside0.mk hr0
  have HC0 := Aside0.mk hc0
  clear hr0 hc0
  have HB := Aside0.mk (Below.refl w.heap.size w)
  have HTB := Aside0.mk hT
  clear hT
  have H : ((bastionlaw02_lives.f k).bind fun t301 => (if t301 = true then ((utf_Encode.f l0).bind fun t302 => ((utf_Decode.f t302).bind fun t303 => (if (t303.length : Int) = (l0.length : Int) then ((utf_Valid.f t302).bind fun t306 => (if t306 = true then ((utf_Scalar.f t302).bind fun t307 => (bastionlaw02_UtfBack.j0 k l0 a1 t302 t303 (t307.toList != t302.toList))) else (bastionlaw02_UtfBack.j0 k l0 a1 t302 t303 true))) else (bastionlaw02_UtfBack.j0 k l0 a1 t302 t303 true)))) else (some false))) = some r := h
  clear h
  replace H := Option.bind_eq_some_iff.mp H
  obtain ⟨t301, A30, H⟩ := H
  replace H : (if t301 = true then ((utf_Encode.f l0).bind fun t302 => ((utf_Decode.f t302).bind fun t303 => (if (t303.length : Int) = (l0.length : Int) then ((utf_Valid.f t302).bind fun t306 => (if t306 = true then ((utf_Scalar.f t302).bind fun t307 => (bastionlaw02_UtfBack.j0 k l0 a1 t302 t303 (t307.toList != t302.toList))) else (bastionlaw02_UtfBack.j0 k l0 a1 t302 t303 true))) else (bastionlaw02_UtfBack.j0 k l0 a1 t302 t303 true)))) else (some false)) = some r := H
  have A3 := Aside0.mk A30
  clear A30
  by_cases c4 : t301 = true
  · subst c4
    have H1 : ((utf_Encode.f l0).bind fun t302 => ((utf_Decode.f t302).bind fun t303 => (if (t303.length : Int) = (l0.length : Int) then ((utf_Valid.f t302).bind fun t306 => (if t306 = true then ((utf_Scalar.f t302).bind fun t307 => (bastionlaw02_UtfBack.j0 k l0 a1 t302 t303 (t307.toList != t302.toList))) else (bastionlaw02_UtfBack.j0 k l0 a1 t302 t303 true))) else (bastionlaw02_UtfBack.j0 k l0 a1 t302 t303 true)))) = some r := by rw [if_pos rfl] at H; exact H
    clear H
    have H := H1
    clear H1
    replace H := Option.bind_eq_some_iff.mp H
    obtain ⟨t302, A50, H⟩ := H
    replace H : ((utf_Decode.f t302).bind fun t303 => (if (t303.length : Int) = (l0.length : Int) then ((utf_Valid.f t302).bind fun t306 => (if t306 = true then ((utf_Scalar.f t302).bind fun t307 => (bastionlaw02_UtfBack.j0 k l0 a1 t302 t303 (t307.toList != t302.toList))) else (bastionlaw02_UtfBack.j0 k l0 a1 t302 t303 true))) else (bastionlaw02_UtfBack.j0 k l0 a1 t302 t303 true))) = some r := H
    have A5 := Aside0.mk A50
    clear A50
    replace H := Option.bind_eq_some_iff.mp H
    obtain ⟨t303, A60, H⟩ := H
    replace H : (if (t303.length : Int) = (l0.length : Int) then ((utf_Valid.f t302).bind fun t306 => (if t306 = true then ((utf_Scalar.f t302).bind fun t307 => (bastionlaw02_UtfBack.j0 k l0 a1 t302 t303 (t307.toList != t302.toList))) else (bastionlaw02_UtfBack.j0 k l0 a1 t302 t303 true))) else (bastionlaw02_UtfBack.j0 k l0 a1 t302 t303 true)) = some r := H
    have A6 := Aside0.mk A60
    clear A60
    have HC7 := Aside0.mk H
    clear H
    go_enter Tryd.func7, Tryd.ntmps7
    go_upto_region 5 with (first | ((with_reducible refine gate_callee (f := 9) rfl ?_); refine goesL_ (some 15) rfl rfl Tryd.func9 (by kernel_rfl) rfl #[] rfl (by (try simp only [List.map_toArray, List.map_cons, List.map_nil]); first | done | rfl | (simp only [List.length_drop, List.length_take]; rfl)) ?_; (with_reducible refine (bastionlaw02_lives.calls k  true _ ?side1 A3.out).mono ?_); (case side1 => exact UTabs.below HTB.out (by repeat (first | (with_reducible first | exact HB.out | apply below_alloc | apply pw_below_drewN | apply below_drew1) | exact HB.out))); rintro e w8 ⟨rfl, hb⟩; refine ⟨_, rfl, ?_⟩; have n0_ := Aside0.mk (below_step (by repeat (first | (with_reducible first | exact HB.out | apply below_alloc | apply pw_below_drewN | apply below_drew1) | exact HB.out)) hb); clear HB; have HB := n0_; clear n0_; (try clear hb); (try clear hb2); (try clear hk); (try clear hi)) | ((with_reducible refine gate_callee (f := 10) rfl ?_); refine goesL_ (some 18) rfl rfl Tryd.func10 (by kernel_rfl) rfl #[.slice A0 l0.length c0] rfl (by (try simp only [List.map_toArray, List.map_cons, List.map_nil]); first | done | rfl | (simp only [List.length_drop, List.length_take]; rfl)) ?_; (with_reducible refine (utf_Encode.calls _ _ l0 t302 _ ?side1 ?side2 A5.out).mono ?_); (case side1 => repeat (first | exact (Kd.C_below HR0.out HB.out) | (with_reducible refine Kd.C_alloc ?_ _) | (with_reducible refine Kd.C_drewN ?_ _) | (with_reducible refine Kd.C_drew ?_))); (case side2 => exact HC0.out); rintro e w9 ⟨rfl, hb⟩; refine ⟨_, rfl, ?_⟩; have n0_ := Aside0.mk (below_step (by repeat (first | (with_reducible first | exact HB.out | apply below_alloc | apply pw_below_drewN | apply below_drew1) | exact HB.out)) hb); clear HB; have HB := n0_; clear n0_; (try clear hb); (try clear hb2); (try clear hk); (try clear hi)) | ((with_reducible refine gate_callee (f := 15) rfl ?_); refine goesL_ (some 20) rfl rfl Tryd.func15 (by kernel_rfl) rfl #[.string t302] rfl (by (try simp only [List.map_toArray, List.map_cons, List.map_nil]); first | done | rfl | (simp only [List.length_drop, List.length_take]; rfl)) ?_; (with_reducible refine (utf_Decode.calls t302 t303 _ ?side1 A6.out).mono ?_); (case side1 => exact UTabs.below HTB.out (by repeat (first | (with_reducible first | exact HB.out | apply below_alloc | apply pw_below_drewN | apply below_drew1) | exact HB.out))); rintro e w10 ⟨v304, rfl, ho0, hb⟩; refine ⟨_, rfl, ?_⟩; have n0_ := Aside0.mk (Kd.R_lower ho0 (below_size (by repeat (first | (with_reducible first | exact HB.out | apply below_alloc | apply pw_below_drewN | apply below_drew1) | exact HB.out)))); have n1_ := Aside0.mk (below_step (by repeat (first | (with_reducible first | exact HB.out | apply below_alloc | apply pw_below_drewN | apply below_drew1) | exact HB.out)) hb); clear HB; have HO305 := n0_; have HB := n1_; clear n0_ n1_; (try clear hb); (try clear hb2); (try clear hk); (try clear hi); (try clear ho0)))
    (try simp only [Act.put, List.setIfInBounds_toArray, List.set_cons_zero, List.set_cons_succ])
    go_cut [36] (fun v36 wc => ∃ (kq : Nat) (x36_6 : Bool), v36 = .bool x36_6 ∧ Aside0 (bastionlaw02_UtfBack.j0 kq l0 a1 t302 t303 x36_6 = some r) ∧ Aside0 (kq ≤ k) ∧ Aside0 (Kd.R (Kd.int .i32) 21 wc w.heap.size (fun _ => True) v304 t303) ∧ Aside0 (Below w.heap.size w wc))
    case first =>
      have H := HC7.out
      clear HC7
      by_cases c11 : (t303.length : Int) = (l0.length : Int)
      · rw [if_pos c11] at H
        have c11b0 : ((t303.length : Int) == (l0.length : Int)) = true := beq_iff_eq.mpr c11
        have c11b1 : ((t303.length : Int) != (l0.length : Int)) = false := bne_eq_false_iff_eq.mpr c11
        have c11b2 : (t303.length == l0.length) = true := by first | simpa using c11 | (simp at c11 ⊢; omega)
        clear c11
        (first | rw [c11b0] | (simp only [i64_w, i32_w]; rw [c11b0]) | skip)
        replace H := Option.bind_eq_some_iff.mp H
        obtain ⟨t306, A120, H⟩ := H
        replace H : (if t306 = true then ((utf_Scalar.f t302).bind fun t307 => (bastionlaw02_UtfBack.j0 k l0 a1 t302 t303 (t307.toList != t302.toList))) else (bastionlaw02_UtfBack.j0 k l0 a1 t302 t303 true)) = some r := H
        have A12 := Aside0.mk A120
        clear A120
        by_cases c13 : t306 = true
        · subst c13
          have H1 : ((utf_Scalar.f t302).bind fun t307 => (bastionlaw02_UtfBack.j0 k l0 a1 t302 t303 (t307.toList != t302.toList))) = some r := by rw [if_pos rfl] at H; exact H
          clear H
          have H := H1
          clear H1
          replace H := Option.bind_eq_some_iff.mp H
          obtain ⟨t307, A140, H⟩ := H
          replace H : (bastionlaw02_UtfBack.j0 k l0 a1 t302 t303 (t307.toList != t302.toList)) = some r := H
          have A14 := Aside0.mk A140
          clear A140
          have H' := Aside0.mk H
          clear H
          obtain ⟨Ao15, co15, eo15⟩ := Kd.R_slice HO305.out
          subst eo15
          go_wp2_with (first | (go_at_call 16; (with_reducible refine (utf_Valid.calls t302 true _ ?side1 A12.out).mono ?_); (case side1 => exact UTabs.below HTB.out (by repeat (first | (with_reducible first | exact HB.out | apply below_alloc | apply pw_below_drewN | apply below_drew1) | exact HB.out))); rintro e w16 ⟨rfl, hb⟩; have n0_ := Aside0.mk (Kd.R_below (by (with_reducible repeat (first | apply Kd.R_alloc | apply Kd.R_drewN | apply Kd.R_drew)); exact HO305.out) hb); have n1_ := Aside0.mk (below_step (by repeat (first | (with_reducible first | exact HB.out | apply below_alloc | apply pw_below_drewN | apply below_drew1) | exact HB.out)) hb); clear HO305; clear HB; have HO305 := n0_; have HB := n1_; clear n0_ n1_; (try clear hb); (try clear hb2); (try clear hk); (try clear hi)) | (go_at_call 19; (with_reducible refine (utf_Scalar.calls t302 t307 _ ?side1 A14.out).mono ?_); (case side1 => exact UTabs.below HTB.out (by repeat (first | (with_reducible first | exact HB.out | apply below_alloc | apply pw_below_drewN | apply below_drew1) | exact HB.out))); rintro e w17 ⟨rfl, hb⟩; have n0_ := Aside0.mk (Kd.R_below (by (with_reducible repeat (first | apply Kd.R_alloc | apply Kd.R_drewN | apply Kd.R_drew)); exact HO305.out) hb); have n1_ := Aside0.mk (below_step (by repeat (first | (with_reducible first | exact HB.out | apply below_alloc | apply pw_below_drewN | apply below_drew1) | exact HB.out)) hb); clear HO305; clear HB; have HO305 := n0_; have HB := n1_; clear n0_ n1_; (try clear hb); (try clear hb2); (try clear hk); (try clear hi)))
          go_meet
          case rel => exact ⟨_, ((t307.toList != t302.toList)), (by first | rfl | (simp; done) | (simp [*]; done)), H', ⟨by first | omega | exact Nat.le_refl _⟩, ⟨by (with_reducible repeat (first | apply Kd.R_alloc | apply Kd.R_drewN | apply Kd.R_drew)); exact HO305.out⟩, ⟨by repeat (first | (with_reducible first | exact HB.out | apply below_alloc | apply pw_below_drewN | apply below_drew1) | exact HB.out)⟩⟩
        · replace c13 := Bool.eq_false_iff.mpr c13
          subst c13
          have H1 : (bastionlaw02_UtfBack.j0 k l0 a1 t302 t303 true) = some r := by rw [if_neg (show ¬ (false = true) by decide)] at H; exact H
          clear H
          have H := H1
          clear H1
          have H' := Aside0.mk H
          clear H
          obtain ⟨Ao18, co18, eo18⟩ := Kd.R_slice HO305.out
          subst eo18
          go_wp2_with (first | (go_at_call 16; (with_reducible refine (utf_Valid.calls t302 false _ ?side1 A12.out).mono ?_); (case side1 => exact UTabs.below HTB.out (by repeat (first | (with_reducible first | exact HB.out | apply below_alloc | apply pw_below_drewN | apply below_drew1) | exact HB.out))); rintro e w19 ⟨rfl, hb⟩; have n0_ := Aside0.mk (Kd.R_below (by (with_reducible repeat (first | apply Kd.R_alloc | apply Kd.R_drewN | apply Kd.R_drew)); exact HO305.out) hb); have n1_ := Aside0.mk (below_step (by repeat (first | (with_reducible first | exact HB.out | apply below_alloc | apply pw_below_drewN | apply below_drew1) | exact HB.out)) hb); clear HO305; clear HB; have HO305 := n0_; have HB := n1_; clear n0_ n1_; (try clear hb); (try clear hb2); (try clear hk); (try clear hi)))
          go_meet
          case rel => exact ⟨_, (true), (by first | rfl | (simp; done) | (simp [*]; done)), H', ⟨by first | omega | exact Nat.le_refl _⟩, ⟨by (with_reducible repeat (first | apply Kd.R_alloc | apply Kd.R_drewN | apply Kd.R_drew)); exact HO305.out⟩, ⟨by repeat (first | (with_reducible first | exact HB.out | apply below_alloc | apply pw_below_drewN | apply below_drew1) | exact HB.out)⟩⟩
      · rw [if_neg c11] at H
        have c11b0 : ((t303.length : Int) == (l0.length : Int)) = false := beq_eq_false_iff_ne.mpr c11
        have c11b1 : ((t303.length : Int) != (l0.length : Int)) = true := bne_iff_ne.mpr c11
        have c11b2 : (t303.length == l0.length) = false := by first | simpa using c11 | (simp at c11 ⊢; omega)
        (first | rw [c11b0] | (simp only [i64_w, i32_w]; rw [c11b0]) | skip)
        have H' := Aside0.mk H
        clear H
        obtain ⟨Ao20, co20, eo20⟩ := Kd.R_slice HO305.out
        subst eo20
        go_wp2
        go_meet
        case rel => exact ⟨_, (true), (by first | rfl | (simp; done) | (simp [*]; done)), H', ⟨by first | omega | exact Nat.le_refl _⟩, ⟨by (with_reducible repeat (first | apply Kd.R_alloc | apply Kd.R_drewN | apply Kd.R_drew)); exact HO305.out⟩, ⟨by repeat (first | (with_reducible first | exact HB.out | apply below_alloc | apply pw_below_drewN | apply below_drew1) | exact HB.out)⟩⟩
    case rest =>
      clear HC7
      try clear c1
      try clear p2
      try clear c4
      try clear c7
      try clear c9
      try clear c10
      try clear c11
      try clear c11b0
      try clear c11b1
      try clear c11b2
      try clear c13
      try clear c15
      obtain ⟨kq, x36_6, rfl, HA, HJ6, HO_6, HB⟩ := hcut
      cases kq with
      | zero => exact absurd HA.out (by simp [bastionlaw02_UtfBack.j0])
      | succ kj6 =>
        have H := HA.out
        clear HA
        simp only [bastionlaw02_UtfBack.j0] at H
        by_cases c21 : x36_6 = true
        · subst c21
          have H1 : (some false) = some r := by rw [if_pos rfl] at H; exact H
          clear H
          have H := H1
          clear H1
          obtain rfl := Option.some.inj H
          go_wp2
          go_ret
          exact ⟨by first | rfl | (simp [errW_none, errW_some] <;> rfl) | (simp [*, errW_none, errW_some] <;> rfl), by repeat (first | (with_reducible first | exact HB.out | apply below_alloc | apply pw_below_drewN | apply below_drew1) | exact HB.out)⟩
        · replace c21 := Bool.eq_false_iff.mpr c21
          subst c21
          have H1 : (bastionlaw02_UtfBack.l0 kj6 a1 t302 t303 0 l0 (l0.length : Int) 0) = some r := by rw [if_neg (show ¬ (false = true) by decide)] at H; exact H
          clear H
          have H := H1
          clear H1
          have H' := Aside0.mk H
          clear H
          go_wp2
          go_loopg [7, 39] kj6 (fun kq v7 v39 w' => ∃ (x7_2 : Int) (x39_2 : Int), v7 = .int .i64 x7_2 ∧ v39 = .int .i64 x39_2 ∧ Aside0 (bastionlaw02_UtfBack.l0 kq a1 t302 t303 x7_2 l0 (l0.length : Int) x39_2 = some r) ∧ Aside0 (kq ≤ kj6) ∧ Aside0 (Kd.R (Kd.int .i32) 21 w' w.heap.size (fun _ => True) v304 t303) ∧ Aside0 (Below w.heap.size w w'))
          case atStart => exact ⟨(0), (0), (by first | rfl | (simp; done) | (simp [*]; done)), (by first | rfl | (simp; done) | (simp [*]; done)), H', ⟨Nat.le_refl _⟩, ⟨by (with_reducible repeat (first | apply Kd.R_alloc | apply Kd.R_drewN | apply Kd.R_drew)); exact HO_6.out⟩, ⟨by repeat (first | (with_reducible first | exact HB.out | apply below_alloc | apply pw_below_drewN | apply below_drew1) | exact HB.out)⟩⟩
          case round =>
            clear H'
            try clear c1
            try clear c2
            try clear p2
            try clear c4
            try clear c7
            try clear c9
            try clear c10
            try clear c11
            try clear c11b0
            try clear c11b1
            try clear c11b2
            try clear c13
            try clear c15
            try clear c21
            try clear p2
            obtain ⟨x7_2, x39_2, rfl, rfl, HA, HK2, HO_6, HB⟩ := hrel
            cases gk with
            | zero => exact absurd HA.out (by simp [bastionlaw02_UtfBack.l0])
            | succ k2 =>
              have H := HA.out
              clear HA
              simp only [bastionlaw02_UtfBack.l0] at H
              by_cases c22 : x39_2 < (l0.length : Int)
              · rw [if_pos c22] at H
                have c22b0 : decide (x39_2 < (l0.length : Int)) = true := decide_eq_true c22
                clear c22
                by_cases c23 : 0 ≤ x39_2
                · rw [if_pos c23] at H
                  have c23b0 : decide (0 ≤ x39_2) = true := decide_eq_true c23
                  clear c23
                  by_cases c24 : x39_2 < (l0.length : Int)
                  · rw [if_pos c24] at H
                    have c24b0 : decide (x39_2 < (l0.length : Int)) = true := decide_eq_true c24
                    clear c24
                    by_cases c25 : (rd l0 x39_2) ≥ 0
                    · rw [if_pos c25] at H
                      have c25b0 : decide (0 ≤ (rd l0 x39_2)) = true := decide_eq_true c25
                      clear c25
                      by_cases c26 : (rd l0 x39_2) < 55296
                      · rw [if_pos c26] at H
                        have c26b0 : decide ((rd l0 x39_2) < 55296) = true := decide_eq_true c26
                        clear c26
                        by_cases c27 : x39_2 < (t303.length : Int)
                        · rw [if_pos c27] at H
                          have c27b0 : decide (x39_2 < (t303.length : Int)) = true := decide_eq_true c27
                          clear c27
                          by_cases c28 : (rd t303 x39_2) = (rd l0 x39_2)
                          · rw [if_pos c28] at H
                            have c28b0 : ((rd t303 x39_2) == (rd l0 x39_2)) = true := beq_iff_eq.mpr c28
                            have c28b1 : ((rd t303 x39_2) != (rd l0 x39_2)) = false := bne_eq_false_iff_eq.mpr c28
                            clear c28
                            replace H := Option.bind_eq_some_iff.mp H
                            obtain ⟨t310, A290, H⟩ := H
                            replace H : (bastionlaw02_UtfBack.l0 k2 a1 t302 t303 (wrap64 (x7_2 + t310)) l0 (l0.length : Int) (wrap64 (x39_2 + 1))) = some r := H
                            have A29 := Aside0.mk A290
                            clear A290
                            have H' := Aside0.mk H
                            clear H
                            have p308 : 0 ≤ (x39_2 : Int) := of_decide_eq_true (by first | (with_reducible assumption) | assumption)
                            have q308 : x39_2 < (l0.length : Int) := of_decide_eq_true (by first | (with_reducible assumption) | assumption)
                            obtain ⟨ad308, e308, hx308_0⟩ := Kd.at_int HR0.out x39_2 p308 q308
                            cases e308
                            replace hx308_0 := (HB.out.cell (World.block_lt_of_cell? w _ hx308_0)).trans hx308_0
                            replace p308 := eq_true p308
                            replace q308 := eq_true q308
                            obtain ⟨Ao30, co30, eo30⟩ := Kd.R_slice HO_6.out
                            subst eo30
                            have p309 : 0 ≤ (x39_2 : Int) := of_decide_eq_true (by first | (with_reducible assumption) | assumption)
                            have q309 : x39_2 < (t303.length : Int) := of_decide_eq_true (by first | (with_reducible assumption) | assumption)
                            obtain ⟨ad309, e309, hx309_0⟩ := Kd.at_int (Kd.R_reads' HO_6.out).2.2 x39_2 p309 q309
                            cases e309
                            replace p309 := eq_true p309
                            replace q309 := eq_true q309
                            go_wp2_with (first | ((with_reducible refine gate_callee (f := 12) rfl ?_); refine goesL_ (some 80) rfl rfl Tryd.func12 (by kernel_rfl) rfl #[.int .i32 (rd l0 x39_2)] rfl (by (try simp only [List.map_toArray, List.map_cons, List.map_nil]); first | done | rfl | (simp only [List.length_drop, List.length_take]; rfl)) ?_; (with_reducible refine (utf_Width.calls (rd l0 x39_2) t310 _ A29.out).mono ?_); rintro e w31 ⟨rfl, hb⟩; refine ⟨_, rfl, ?_⟩; have n0_ := Aside0.mk (Kd.R_below (by (with_reducible repeat (first | apply Kd.R_alloc | apply Kd.R_drewN | apply Kd.R_drew)); exact HO_6.out) hb); have n1_ := Aside0.mk (below_step (by repeat (first | (with_reducible first | exact HB.out | apply below_alloc | apply pw_below_drewN | apply below_drew1) | exact HB.out)) hb); clear HO_6; clear HB; have HO_6 := n0_; have HB := n1_; clear n0_ n1_; (try clear hb); (try clear hb2); (try clear hk); (try clear hi)))
                            go_roundg k2
                            case measure => have := HJ6.out; have := HK2.out; omega
                            case rel => exact ⟨(wrap64 (x7_2 + t310)), (wrap64 (x39_2 + 1)), (by first | rfl | (simp; done) | (simp [*]; done)), (by first | rfl | (simp; done) | (simp [*]; done)), H', ⟨by have := HJ6.out; have := HK2.out; omega⟩, ⟨by (with_reducible repeat (first | apply Kd.R_alloc | apply Kd.R_drewN | apply Kd.R_drew)); exact HO_6.out⟩, ⟨by repeat (first | (with_reducible first | exact HB.out | apply below_alloc | apply pw_below_drewN | apply below_drew1) | exact HB.out)⟩⟩
                          · rw [if_neg c28] at H
                            have c28b0 : ((rd t303 x39_2) == (rd l0 x39_2)) = false := beq_eq_false_iff_ne.mpr c28
                            have c28b1 : ((rd t303 x39_2) != (rd l0 x39_2)) = true := bne_iff_ne.mpr c28
                            obtain rfl := Option.some.inj H
                            have p308 : 0 ≤ (x39_2 : Int) := of_decide_eq_true (by first | (with_reducible assumption) | assumption)
                            have q308 : x39_2 < (l0.length : Int) := of_decide_eq_true (by first | (with_reducible assumption) | assumption)
                            obtain ⟨ad308, e308, hx308_0⟩ := Kd.at_int HR0.out x39_2 p308 q308
                            cases e308
                            replace hx308_0 := (HB.out.cell (World.block_lt_of_cell? w _ hx308_0)).trans hx308_0
                            replace p308 := eq_true p308
                            replace q308 := eq_true q308
                            obtain ⟨Ao32, co32, eo32⟩ := Kd.R_slice HO_6.out
                            subst eo32
                            have p309 : 0 ≤ (x39_2 : Int) := of_decide_eq_true (by first | (with_reducible assumption) | assumption)
                            have q309 : x39_2 < (t303.length : Int) := of_decide_eq_true (by first | (with_reducible assumption) | assumption)
                            obtain ⟨ad309, e309, hx309_0⟩ := Kd.at_int (Kd.R_reads' HO_6.out).2.2 x39_2 p309 q309
                            cases e309
                            replace p309 := eq_true p309
                            replace q309 := eq_true q309
                            go_wp2
                            go_ret
                            exact ⟨by first | rfl | (simp [errW_none, errW_some] <;> rfl) | (simp [*, errW_none, errW_some] <;> rfl), by repeat (first | (with_reducible first | exact HB.out | apply below_alloc | apply pw_below_drewN | apply below_drew1) | exact HB.out)⟩
                        · rw [if_neg c27] at H
                          exact absurd H (by simp)
                      · rw [if_neg c26] at H
                        have c26b0 : decide ((rd l0 x39_2) < 55296) = false := decide_eq_false c26
                        clear c26
                        by_cases c33 : (rd l0 x39_2) > 57343
                        · rw [if_pos c33] at H
                          have c33b0 : decide (57343 < (rd l0 x39_2)) = true := decide_eq_true c33
                          clear c33
                          by_cases c34 : (rd l0 x39_2) ≤ 1114111
                          · rw [if_pos c34] at H
                            have c34b0 : decide ((rd l0 x39_2) ≤ 1114111) = true := decide_eq_true c34
                            clear c34
                            by_cases c35 : x39_2 < (t303.length : Int)
                            · rw [if_pos c35] at H
                              have c35b0 : decide (x39_2 < (t303.length : Int)) = true := decide_eq_true c35
                              clear c35
                              by_cases c36 : (rd t303 x39_2) = (rd l0 x39_2)
                              · rw [if_pos c36] at H
                                have c36b0 : ((rd t303 x39_2) == (rd l0 x39_2)) = true := beq_iff_eq.mpr c36
                                have c36b1 : ((rd t303 x39_2) != (rd l0 x39_2)) = false := bne_eq_false_iff_eq.mpr c36
                                clear c36
                                by_cases c37 : ((rd l0 x39_2) ≤ 1114111)
                                · rw [if_pos c37] at H
                                  have c37b0 : decide ((rd l0 x39_2) ≤ 1114111) = true := decide_eq_true c37
                                  clear c37
                                  replace H := Option.bind_eq_some_iff.mp H
                                  obtain ⟨t312, A380, H⟩ := H
                                  replace H : (bastionlaw02_UtfBack.l0 k2 a1 t302 t303 (wrap64 (x7_2 + t312)) l0 (l0.length : Int) (wrap64 (x39_2 + 1))) = some r := H
                                  have A38 := Aside0.mk A380
                                  clear A380
                                  have H' := Aside0.mk H
                                  clear H
                                  have p308 : 0 ≤ (x39_2 : Int) := of_decide_eq_true (by first | (with_reducible assumption) | assumption)
                                  have q308 : x39_2 < (l0.length : Int) := of_decide_eq_true (by first | (with_reducible assumption) | assumption)
                                  obtain ⟨ad308, e308, hx308_0⟩ := Kd.at_int HR0.out x39_2 p308 q308
                                  cases e308
                                  replace hx308_0 := (HB.out.cell (World.block_lt_of_cell? w _ hx308_0)).trans hx308_0
                                  replace p308 := eq_true p308
                                  replace q308 := eq_true q308
                                  obtain ⟨Ao39, co39, eo39⟩ := Kd.R_slice HO_6.out
                                  subst eo39
                                  have p311 : 0 ≤ (x39_2 : Int) := of_decide_eq_true (by first | (with_reducible assumption) | assumption)
                                  have q311 : x39_2 < (t303.length : Int) := of_decide_eq_true (by first | (with_reducible assumption) | assumption)
                                  obtain ⟨ad311, e311, hx311_0⟩ := Kd.at_int (Kd.R_reads' HO_6.out).2.2 x39_2 p311 q311
                                  cases e311
                                  replace p311 := eq_true p311
                                  replace q311 := eq_true q311
                                  go_wp2_with (first | ((with_reducible refine gate_callee (f := 12) rfl ?_); refine goesL_ (some 80) rfl rfl Tryd.func12 (by kernel_rfl) rfl #[.int .i32 (rd l0 x39_2)] rfl (by (try simp only [List.map_toArray, List.map_cons, List.map_nil]); first | done | rfl | (simp only [List.length_drop, List.length_take]; rfl)) ?_; (with_reducible refine (utf_Width.calls (rd l0 x39_2) t312 _ A38.out).mono ?_); rintro e w40 ⟨rfl, hb⟩; refine ⟨_, rfl, ?_⟩; have n0_ := Aside0.mk (Kd.R_below (by (with_reducible repeat (first | apply Kd.R_alloc | apply Kd.R_drewN | apply Kd.R_drew)); exact HO_6.out) hb); have n1_ := Aside0.mk (below_step (by repeat (first | (with_reducible first | exact HB.out | apply below_alloc | apply pw_below_drewN | apply below_drew1) | exact HB.out)) hb); clear HO_6; clear HB; have HO_6 := n0_; have HB := n1_; clear n0_ n1_; (try clear hb); (try clear hb2); (try clear hk); (try clear hi)))
                                  go_roundg k2
                                  case measure => have := HJ6.out; have := HK2.out; omega
                                  case rel => exact ⟨(wrap64 (x7_2 + t312)), (wrap64 (x39_2 + 1)), (by first | rfl | (simp; done) | (simp [*]; done)), (by first | rfl | (simp; done) | (simp [*]; done)), H', ⟨by have := HJ6.out; have := HK2.out; omega⟩, ⟨by (with_reducible repeat (first | apply Kd.R_alloc | apply Kd.R_drewN | apply Kd.R_drew)); exact HO_6.out⟩, ⟨by repeat (first | (with_reducible first | exact HB.out | apply below_alloc | apply pw_below_drewN | apply below_drew1) | exact HB.out)⟩⟩
                                · exact absurd (by first | exact of_eq_true c34b0 | exact of_decide_eq_true c34b0 | exact beq_iff_eq.mp c34b0 | assumption) c37
                              · rw [if_neg c36] at H
                                have c36b0 : ((rd t303 x39_2) == (rd l0 x39_2)) = false := beq_eq_false_iff_ne.mpr c36
                                have c36b1 : ((rd t303 x39_2) != (rd l0 x39_2)) = true := bne_iff_ne.mpr c36
                                obtain rfl := Option.some.inj H
                                have p308 : 0 ≤ (x39_2 : Int) := of_decide_eq_true (by first | (with_reducible assumption) | assumption)
                                have q308 : x39_2 < (l0.length : Int) := of_decide_eq_true (by first | (with_reducible assumption) | assumption)
                                obtain ⟨ad308, e308, hx308_0⟩ := Kd.at_int HR0.out x39_2 p308 q308
                                cases e308
                                replace hx308_0 := (HB.out.cell (World.block_lt_of_cell? w _ hx308_0)).trans hx308_0
                                replace p308 := eq_true p308
                                replace q308 := eq_true q308
                                obtain ⟨Ao46, co46, eo46⟩ := Kd.R_slice HO_6.out
                                subst eo46
                                have p311 : 0 ≤ (x39_2 : Int) := of_decide_eq_true (by first | (with_reducible assumption) | assumption)
                                have q311 : x39_2 < (t303.length : Int) := of_decide_eq_true (by first | (with_reducible assumption) | assumption)
                                obtain ⟨ad311, e311, hx311_0⟩ := Kd.at_int (Kd.R_reads' HO_6.out).2.2 x39_2 p311 q311
                                cases e311
                                replace p311 := eq_true p311
                                replace q311 := eq_true q311
                                go_wp2
                                go_ret
                                exact ⟨by first | rfl | (simp [errW_none, errW_some] <;> rfl) | (simp [*, errW_none, errW_some] <;> rfl), by repeat (first | (with_reducible first | exact HB.out | apply below_alloc | apply pw_below_drewN | apply below_drew1) | exact HB.out)⟩
                            · rw [if_neg c35] at H
                              exact absurd H (by simp)
                          · rw [if_neg c34] at H
                            have c34b0 : decide ((rd l0 x39_2) ≤ 1114111) = false := decide_eq_false c34
                            clear c34
                            by_cases c47 : ((rd l0 x39_2) ≤ 1114111)
                            · exact absurd c47 (by first | exact of_eq_false c34b0 | exact of_decide_eq_false c34b0 | exact beq_eq_false_iff_ne.mp c34b0 | assumption)
                            · rw [if_neg c47] at H
                              have c47b0 : decide ((rd l0 x39_2) ≤ 1114111) = false := decide_eq_false c47
                              clear c47
                              by_cases c50 : x39_2 < (t303.length : Int)
                              · rw [if_pos c50] at H
                                have c50b0 : decide (x39_2 < (t303.length : Int)) = true := decide_eq_true c50
                                clear c50
                                by_cases c51 : (rd t303 x39_2) = 65533
                                · rw [if_pos c51] at H
                                  have c51b0 : ((rd t303 x39_2) == 65533) = true := beq_iff_eq.mpr c51
                                  have c51b1 : ((rd t303 x39_2) != 65533) = false := bne_eq_false_iff_eq.mpr c51
                                  clear c51
                                  replace H := Option.bind_eq_some_iff.mp H
                                  obtain ⟨t317, A520, H⟩ := H
                                  replace H : (bastionlaw02_UtfBack.l0 k2 a1 t302 t303 (wrap64 (x7_2 + t317)) l0 (l0.length : Int) (wrap64 (x39_2 + 1))) = some r := H
                                  have A52 := Aside0.mk A520
                                  clear A520
                                  have H' := Aside0.mk H
                                  clear H
                                  have p308 : 0 ≤ (x39_2 : Int) := of_decide_eq_true (by first | (with_reducible assumption) | assumption)
                                  have q308 : x39_2 < (l0.length : Int) := of_decide_eq_true (by first | (with_reducible assumption) | assumption)
                                  obtain ⟨ad308, e308, hx308_0⟩ := Kd.at_int HR0.out x39_2 p308 q308
                                  cases e308
                                  replace hx308_0 := (HB.out.cell (World.block_lt_of_cell? w _ hx308_0)).trans hx308_0
                                  replace p308 := eq_true p308
                                  replace q308 := eq_true q308
                                  obtain ⟨Ao53, co53, eo53⟩ := Kd.R_slice HO_6.out
                                  subst eo53
                                  have p316 : 0 ≤ (x39_2 : Int) := of_decide_eq_true (by first | (with_reducible assumption) | assumption)
                                  have q316 : x39_2 < (t303.length : Int) := of_decide_eq_true (by first | (with_reducible assumption) | assumption)
                                  obtain ⟨ad316, e316, hx316_0⟩ := Kd.at_int (Kd.R_reads' HO_6.out).2.2 x39_2 p316 q316
                                  cases e316
                                  replace p316 := eq_true p316
                                  replace q316 := eq_true q316
                                  go_wp2_with (first | ((with_reducible refine gate_callee (f := 12) rfl ?_); refine goesL_ (some 80) rfl rfl Tryd.func12 (by kernel_rfl) rfl #[.int .i32 (rd l0 x39_2)] rfl (by (try simp only [List.map_toArray, List.map_cons, List.map_nil]); first | done | rfl | (simp only [List.length_drop, List.length_take]; rfl)) ?_; (with_reducible refine (utf_Width.calls (rd l0 x39_2) t317 _ A52.out).mono ?_); rintro e w54 ⟨rfl, hb⟩; refine ⟨_, rfl, ?_⟩; have n0_ := Aside0.mk (Kd.R_below (by (with_reducible repeat (first | apply Kd.R_alloc | apply Kd.R_drewN | apply Kd.R_drew)); exact HO_6.out) hb); have n1_ := Aside0.mk (below_step (by repeat (first | (with_reducible first | exact HB.out | apply below_alloc | apply pw_below_drewN | apply below_drew1) | exact HB.out)) hb); clear HO_6; clear HB; have HO_6 := n0_; have HB := n1_; clear n0_ n1_; (try clear hb); (try clear hb2); (try clear hk); (try clear hi)))
                                  go_roundg k2
                                  case measure => have := HJ6.out; have := HK2.out; omega
                                  case rel => exact ⟨(wrap64 (x7_2 + t317)), (wrap64 (x39_2 + 1)), (by first | rfl | (simp; done) | (simp [*]; done)), (by first | rfl | (simp; done) | (simp [*]; done)), H', ⟨by have := HJ6.out; have := HK2.out; omega⟩, ⟨by (with_reducible repeat (first | apply Kd.R_alloc | apply Kd.R_drewN | apply Kd.R_drew)); exact HO_6.out⟩, ⟨by repeat (first | (with_reducible first | exact HB.out | apply below_alloc | apply pw_below_drewN | apply below_drew1) | exact HB.out)⟩⟩
                                · rw [if_neg c51] at H
                                  have c51b0 : ((rd t303 x39_2) == 65533) = false := beq_eq_false_iff_ne.mpr c51
                                  have c51b1 : ((rd t303 x39_2) != 65533) = true := bne_iff_ne.mpr c51
                                  obtain rfl := Option.some.inj H
                                  have p308 : 0 ≤ (x39_2 : Int) := of_decide_eq_true (by first | (with_reducible assumption) | assumption)
                                  have q308 : x39_2 < (l0.length : Int) := of_decide_eq_true (by first | (with_reducible assumption) | assumption)
                                  obtain ⟨ad308, e308, hx308_0⟩ := Kd.at_int HR0.out x39_2 p308 q308
                                  cases e308
                                  replace hx308_0 := (HB.out.cell (World.block_lt_of_cell? w _ hx308_0)).trans hx308_0
                                  replace p308 := eq_true p308
                                  replace q308 := eq_true q308
                                  obtain ⟨Ao55, co55, eo55⟩ := Kd.R_slice HO_6.out
                                  subst eo55
                                  have p316 : 0 ≤ (x39_2 : Int) := of_decide_eq_true (by first | (with_reducible assumption) | assumption)
                                  have q316 : x39_2 < (t303.length : Int) := of_decide_eq_true (by first | (with_reducible assumption) | assumption)
                                  obtain ⟨ad316, e316, hx316_0⟩ := Kd.at_int (Kd.R_reads' HO_6.out).2.2 x39_2 p316 q316
                                  cases e316
                                  replace p316 := eq_true p316
                                  replace q316 := eq_true q316
                                  go_wp2
                                  go_ret
                                  exact ⟨by first | rfl | (simp [errW_none, errW_some] <;> rfl) | (simp [*, errW_none, errW_some] <;> rfl), by repeat (first | (with_reducible first | exact HB.out | apply below_alloc | apply pw_below_drewN | apply below_drew1) | exact HB.out)⟩
                              · rw [if_neg c50] at H
                                exact absurd H (by simp)
                        · rw [if_neg c33] at H
                          have c33b0 : decide (57343 < (rd l0 x39_2)) = false := decide_eq_false c33
                          clear c33
                          by_cases c56 : x39_2 < (t303.length : Int)
                          · rw [if_pos c56] at H
                            have c56b0 : decide (x39_2 < (t303.length : Int)) = true := decide_eq_true c56
                            clear c56
                            by_cases c57 : (rd t303 x39_2) = 65533
                            · rw [if_pos c57] at H
                              have c57b0 : ((rd t303 x39_2) == 65533) = true := beq_iff_eq.mpr c57
                              have c57b1 : ((rd t303 x39_2) != 65533) = false := bne_eq_false_iff_eq.mpr c57
                              clear c57
                              replace H := Option.bind_eq_some_iff.mp H
                              obtain ⟨t319, A580, H⟩ := H
                              replace H : (bastionlaw02_UtfBack.l0 k2 a1 t302 t303 (wrap64 (x7_2 + t319)) l0 (l0.length : Int) (wrap64 (x39_2 + 1))) = some r := H
                              have A58 := Aside0.mk A580
                              clear A580
                              have H' := Aside0.mk H
                              clear H
                              have p308 : 0 ≤ (x39_2 : Int) := of_decide_eq_true (by first | (with_reducible assumption) | assumption)
                              have q308 : x39_2 < (l0.length : Int) := of_decide_eq_true (by first | (with_reducible assumption) | assumption)
                              obtain ⟨ad308, e308, hx308_0⟩ := Kd.at_int HR0.out x39_2 p308 q308
                              cases e308
                              replace hx308_0 := (HB.out.cell (World.block_lt_of_cell? w _ hx308_0)).trans hx308_0
                              replace p308 := eq_true p308
                              replace q308 := eq_true q308
                              obtain ⟨Ao59, co59, eo59⟩ := Kd.R_slice HO_6.out
                              subst eo59
                              have p318 : 0 ≤ (x39_2 : Int) := of_decide_eq_true (by first | (with_reducible assumption) | assumption)
                              have q318 : x39_2 < (t303.length : Int) := of_decide_eq_true (by first | (with_reducible assumption) | assumption)
                              obtain ⟨ad318, e318, hx318_0⟩ := Kd.at_int (Kd.R_reads' HO_6.out).2.2 x39_2 p318 q318
                              cases e318
                              replace p318 := eq_true p318
                              replace q318 := eq_true q318
                              go_wp2_with (first | ((with_reducible refine gate_callee (f := 12) rfl ?_); refine goesL_ (some 80) rfl rfl Tryd.func12 (by kernel_rfl) rfl #[.int .i32 (rd l0 x39_2)] rfl (by (try simp only [List.map_toArray, List.map_cons, List.map_nil]); first | done | rfl | (simp only [List.length_drop, List.length_take]; rfl)) ?_; (with_reducible refine (utf_Width.calls (rd l0 x39_2) t319 _ A58.out).mono ?_); rintro e w60 ⟨rfl, hb⟩; refine ⟨_, rfl, ?_⟩; have n0_ := Aside0.mk (Kd.R_below (by (with_reducible repeat (first | apply Kd.R_alloc | apply Kd.R_drewN | apply Kd.R_drew)); exact HO_6.out) hb); have n1_ := Aside0.mk (below_step (by repeat (first | (with_reducible first | exact HB.out | apply below_alloc | apply pw_below_drewN | apply below_drew1) | exact HB.out)) hb); clear HO_6; clear HB; have HO_6 := n0_; have HB := n1_; clear n0_ n1_; (try clear hb); (try clear hb2); (try clear hk); (try clear hi)))
                              go_roundg k2
                              case measure => have := HJ6.out; have := HK2.out; omega
                              case rel => exact ⟨(wrap64 (x7_2 + t319)), (wrap64 (x39_2 + 1)), (by first | rfl | (simp; done) | (simp [*]; done)), (by first | rfl | (simp; done) | (simp [*]; done)), H', ⟨by have := HJ6.out; have := HK2.out; omega⟩, ⟨by (with_reducible repeat (first | apply Kd.R_alloc | apply Kd.R_drewN | apply Kd.R_drew)); exact HO_6.out⟩, ⟨by repeat (first | (with_reducible first | exact HB.out | apply below_alloc | apply pw_below_drewN | apply below_drew1) | exact HB.out)⟩⟩
                            · rw [if_neg c57] at H
                              have c57b0 : ((rd t303 x39_2) == 65533) = false := beq_eq_false_iff_ne.mpr c57
                              have c57b1 : ((rd t303 x39_2) != 65533) = true := bne_iff_ne.mpr c57
                              obtain rfl := Option.some.inj H
                              have p308 : 0 ≤ (x39_2 : Int) := of_decide_eq_true (by first | (with_reducible assumption) | assumption)
                              have q308 : x39_2 < (l0.length : Int) := of_decide_eq_true (by first | (with_reducible assumption) | assumption)
                              obtain ⟨ad308, e308, hx308_0⟩ := Kd.at_int HR0.out x39_2 p308 q308
                              cases e308
                              replace hx308_0 := (HB.out.cell (World.block_lt_of_cell? w _ hx308_0)).trans hx308_0
                              replace p308 := eq_true p308
                              replace q308 := eq_true q308
                              obtain ⟨Ao61, co61, eo61⟩ := Kd.R_slice HO_6.out
                              subst eo61
                              have p318 : 0 ≤ (x39_2 : Int) := of_decide_eq_true (by first | (with_reducible assumption) | assumption)
                              have q318 : x39_2 < (t303.length : Int) := of_decide_eq_true (by first | (with_reducible assumption) | assumption)
                              obtain ⟨ad318, e318, hx318_0⟩ := Kd.at_int (Kd.R_reads' HO_6.out).2.2 x39_2 p318 q318
                              cases e318
                              replace p318 := eq_true p318
                              replace q318 := eq_true q318
                              go_wp2
                              go_ret
                              exact ⟨by first | rfl | (simp [errW_none, errW_some] <;> rfl) | (simp [*, errW_none, errW_some] <;> rfl), by repeat (first | (with_reducible first | exact HB.out | apply below_alloc | apply pw_below_drewN | apply below_drew1) | exact HB.out)⟩
                          · rw [if_neg c56] at H
                            exact absurd H (by simp)
                    · rw [if_neg c25] at H
                      have c25b0 : decide (0 ≤ (rd l0 x39_2)) = false := decide_eq_false c25
                      clear c25
                      by_cases c62 : (rd l0 x39_2) > 57343
                      · rw [if_pos c62] at H
                        have c62b0 : decide (57343 < (rd l0 x39_2)) = true := decide_eq_true c62
                        clear c62
                        by_cases c63 : (rd l0 x39_2) ≤ 1114111
                        · rw [if_pos c63] at H
                          have c63b0 : decide ((rd l0 x39_2) ≤ 1114111) = true := decide_eq_true c63
                          clear c63
                          by_cases c64 : x39_2 < (t303.length : Int)
                          · rw [if_pos c64] at H
                            have c64b0 : decide (x39_2 < (t303.length : Int)) = true := decide_eq_true c64
                            clear c64
                            by_cases c65 : (rd t303 x39_2) = (rd l0 x39_2)
                            · rw [if_pos c65] at H
                              have c65b0 : ((rd t303 x39_2) == (rd l0 x39_2)) = true := beq_iff_eq.mpr c65
                              have c65b1 : ((rd t303 x39_2) != (rd l0 x39_2)) = false := bne_eq_false_iff_eq.mpr c65
                              clear c65
                              by_cases c66 : ((rd l0 x39_2) ≤ 1114111)
                              · rw [if_pos c66] at H
                                have c66b0 : decide ((rd l0 x39_2) ≤ 1114111) = true := decide_eq_true c66
                                clear c66
                                replace H := Option.bind_eq_some_iff.mp H
                                obtain ⟨t321, A670, H⟩ := H
                                replace H : (bastionlaw02_UtfBack.l0 k2 a1 t302 t303 (wrap64 (x7_2 + t321)) l0 (l0.length : Int) (wrap64 (x39_2 + 1))) = some r := H
                                have A67 := Aside0.mk A670
                                clear A670
                                have H' := Aside0.mk H
                                clear H
                                have p308 : 0 ≤ (x39_2 : Int) := of_decide_eq_true (by first | (with_reducible assumption) | assumption)
                                have q308 : x39_2 < (l0.length : Int) := of_decide_eq_true (by first | (with_reducible assumption) | assumption)
                                obtain ⟨ad308, e308, hx308_0⟩ := Kd.at_int HR0.out x39_2 p308 q308
                                cases e308
                                replace hx308_0 := (HB.out.cell (World.block_lt_of_cell? w _ hx308_0)).trans hx308_0
                                replace p308 := eq_true p308
                                replace q308 := eq_true q308
                                obtain ⟨Ao68, co68, eo68⟩ := Kd.R_slice HO_6.out
                                subst eo68
                                have p320 : 0 ≤ (x39_2 : Int) := of_decide_eq_true (by first | (with_reducible assumption) | assumption)
                                have q320 : x39_2 < (t303.length : Int) := of_decide_eq_true (by first | (with_reducible assumption) | assumption)
                                obtain ⟨ad320, e320, hx320_0⟩ := Kd.at_int (Kd.R_reads' HO_6.out).2.2 x39_2 p320 q320
                                cases e320
                                replace p320 := eq_true p320
                                replace q320 := eq_true q320
                                go_wp2_with (first | ((with_reducible refine gate_callee (f := 12) rfl ?_); refine goesL_ (some 80) rfl rfl Tryd.func12 (by kernel_rfl) rfl #[.int .i32 (rd l0 x39_2)] rfl (by (try simp only [List.map_toArray, List.map_cons, List.map_nil]); first | done | rfl | (simp only [List.length_drop, List.length_take]; rfl)) ?_; (with_reducible refine (utf_Width.calls (rd l0 x39_2) t321 _ A67.out).mono ?_); rintro e w69 ⟨rfl, hb⟩; refine ⟨_, rfl, ?_⟩; have n0_ := Aside0.mk (Kd.R_below (by (with_reducible repeat (first | apply Kd.R_alloc | apply Kd.R_drewN | apply Kd.R_drew)); exact HO_6.out) hb); have n1_ := Aside0.mk (below_step (by repeat (first | (with_reducible first | exact HB.out | apply below_alloc | apply pw_below_drewN | apply below_drew1) | exact HB.out)) hb); clear HO_6; clear HB; have HO_6 := n0_; have HB := n1_; clear n0_ n1_; (try clear hb); (try clear hb2); (try clear hk); (try clear hi)))
                                go_roundg k2
                                case measure => have := HJ6.out; have := HK2.out; omega
                                case rel => exact ⟨(wrap64 (x7_2 + t321)), (wrap64 (x39_2 + 1)), (by first | rfl | (simp; done) | (simp [*]; done)), (by first | rfl | (simp; done) | (simp [*]; done)), H', ⟨by have := HJ6.out; have := HK2.out; omega⟩, ⟨by (with_reducible repeat (first | apply Kd.R_alloc | apply Kd.R_drewN | apply Kd.R_drew)); exact HO_6.out⟩, ⟨by repeat (first | (with_reducible first | exact HB.out | apply below_alloc | apply pw_below_drewN | apply below_drew1) | exact HB.out)⟩⟩
                              · exact absurd (by first | exact of_eq_true c63b0 | exact of_decide_eq_true c63b0 | exact beq_iff_eq.mp c63b0 | assumption) c66
                            · rw [if_neg c65] at H
                              have c65b0 : ((rd t303 x39_2) == (rd l0 x39_2)) = false := beq_eq_false_iff_ne.mpr c65
                              have c65b1 : ((rd t303 x39_2) != (rd l0 x39_2)) = true := bne_iff_ne.mpr c65
                              obtain rfl := Option.some.inj H
                              have p308 : 0 ≤ (x39_2 : Int) := of_decide_eq_true (by first | (with_reducible assumption) | assumption)
                              have q308 : x39_2 < (l0.length : Int) := of_decide_eq_true (by first | (with_reducible assumption) | assumption)
                              obtain ⟨ad308, e308, hx308_0⟩ := Kd.at_int HR0.out x39_2 p308 q308
                              cases e308
                              replace hx308_0 := (HB.out.cell (World.block_lt_of_cell? w _ hx308_0)).trans hx308_0
                              replace p308 := eq_true p308
                              replace q308 := eq_true q308
                              obtain ⟨Ao75, co75, eo75⟩ := Kd.R_slice HO_6.out
                              subst eo75
                              have p320 : 0 ≤ (x39_2 : Int) := of_decide_eq_true (by first | (with_reducible assumption) | assumption)
                              have q320 : x39_2 < (t303.length : Int) := of_decide_eq_true (by first | (with_reducible assumption) | assumption)
                              obtain ⟨ad320, e320, hx320_0⟩ := Kd.at_int (Kd.R_reads' HO_6.out).2.2 x39_2 p320 q320
                              cases e320
                              replace p320 := eq_true p320
                              replace q320 := eq_true q320
                              go_wp2
                              go_ret
                              exact ⟨by first | rfl | (simp [errW_none, errW_some] <;> rfl) | (simp [*, errW_none, errW_some] <;> rfl), by repeat (first | (with_reducible first | exact HB.out | apply below_alloc | apply pw_below_drewN | apply below_drew1) | exact HB.out)⟩
                          · rw [if_neg c64] at H
                            exact absurd H (by simp)
                        · rw [if_neg c63] at H
                          have c63b0 : decide ((rd l0 x39_2) ≤ 1114111) = false := decide_eq_false c63
                          clear c63
                          by_cases c76 : ((rd l0 x39_2) ≤ 1114111)
                          · exact absurd c76 (by first | exact of_eq_false c63b0 | exact of_decide_eq_false c63b0 | exact beq_eq_false_iff_ne.mp c63b0 | assumption)
                          · rw [if_neg c76] at H
                            have c76b0 : decide ((rd l0 x39_2) ≤ 1114111) = false := decide_eq_false c76
                            clear c76
                            by_cases c79 : x39_2 < (t303.length : Int)
                            · rw [if_pos c79] at H
                              have c79b0 : decide (x39_2 < (t303.length : Int)) = true := decide_eq_true c79
                              clear c79
                              by_cases c80 : (rd t303 x39_2) = 65533
                              · rw [if_pos c80] at H
                                have c80b0 : ((rd t303 x39_2) == 65533) = true := beq_iff_eq.mpr c80
                                have c80b1 : ((rd t303 x39_2) != 65533) = false := bne_eq_false_iff_eq.mpr c80
                                clear c80
                                replace H := Option.bind_eq_some_iff.mp H
                                obtain ⟨t326, A810, H⟩ := H
                                replace H : (bastionlaw02_UtfBack.l0 k2 a1 t302 t303 (wrap64 (x7_2 + t326)) l0 (l0.length : Int) (wrap64 (x39_2 + 1))) = some r := H
                                have A81 := Aside0.mk A810
                                clear A810
                                have H' := Aside0.mk H
                                clear H
                                have p308 : 0 ≤ (x39_2 : Int) := of_decide_eq_true (by first | (with_reducible assumption) | assumption)
                                have q308 : x39_2 < (l0.length : Int) := of_decide_eq_true (by first | (with_reducible assumption) | assumption)
                                obtain ⟨ad308, e308, hx308_0⟩ := Kd.at_int HR0.out x39_2 p308 q308
                                cases e308
                                replace hx308_0 := (HB.out.cell (World.block_lt_of_cell? w _ hx308_0)).trans hx308_0
                                replace p308 := eq_true p308
                                replace q308 := eq_true q308
                                obtain ⟨Ao82, co82, eo82⟩ := Kd.R_slice HO_6.out
                                subst eo82
                                have p325 : 0 ≤ (x39_2 : Int) := of_decide_eq_true (by first | (with_reducible assumption) | assumption)
                                have q325 : x39_2 < (t303.length : Int) := of_decide_eq_true (by first | (with_reducible assumption) | assumption)
                                obtain ⟨ad325, e325, hx325_0⟩ := Kd.at_int (Kd.R_reads' HO_6.out).2.2 x39_2 p325 q325
                                cases e325
                                replace p325 := eq_true p325
                                replace q325 := eq_true q325
                                go_wp2_with (first | ((with_reducible refine gate_callee (f := 12) rfl ?_); refine goesL_ (some 80) rfl rfl Tryd.func12 (by kernel_rfl) rfl #[.int .i32 (rd l0 x39_2)] rfl (by (try simp only [List.map_toArray, List.map_cons, List.map_nil]); first | done | rfl | (simp only [List.length_drop, List.length_take]; rfl)) ?_; (with_reducible refine (utf_Width.calls (rd l0 x39_2) t326 _ A81.out).mono ?_); rintro e w83 ⟨rfl, hb⟩; refine ⟨_, rfl, ?_⟩; have n0_ := Aside0.mk (Kd.R_below (by (with_reducible repeat (first | apply Kd.R_alloc | apply Kd.R_drewN | apply Kd.R_drew)); exact HO_6.out) hb); have n1_ := Aside0.mk (below_step (by repeat (first | (with_reducible first | exact HB.out | apply below_alloc | apply pw_below_drewN | apply below_drew1) | exact HB.out)) hb); clear HO_6; clear HB; have HO_6 := n0_; have HB := n1_; clear n0_ n1_; (try clear hb); (try clear hb2); (try clear hk); (try clear hi)))
                                go_roundg k2
                                case measure => have := HJ6.out; have := HK2.out; omega
                                case rel => exact ⟨(wrap64 (x7_2 + t326)), (wrap64 (x39_2 + 1)), (by first | rfl | (simp; done) | (simp [*]; done)), (by first | rfl | (simp; done) | (simp [*]; done)), H', ⟨by have := HJ6.out; have := HK2.out; omega⟩, ⟨by (with_reducible repeat (first | apply Kd.R_alloc | apply Kd.R_drewN | apply Kd.R_drew)); exact HO_6.out⟩, ⟨by repeat (first | (with_reducible first | exact HB.out | apply below_alloc | apply pw_below_drewN | apply below_drew1) | exact HB.out)⟩⟩
                              · rw [if_neg c80] at H
                                have c80b0 : ((rd t303 x39_2) == 65533) = false := beq_eq_false_iff_ne.mpr c80
                                have c80b1 : ((rd t303 x39_2) != 65533) = true := bne_iff_ne.mpr c80
                                obtain rfl := Option.some.inj H
                                have p308 : 0 ≤ (x39_2 : Int) := of_decide_eq_true (by first | (with_reducible assumption) | assumption)
                                have q308 : x39_2 < (l0.length : Int) := of_decide_eq_true (by first | (with_reducible assumption) | assumption)
                                obtain ⟨ad308, e308, hx308_0⟩ := Kd.at_int HR0.out x39_2 p308 q308
                                cases e308
                                replace hx308_0 := (HB.out.cell (World.block_lt_of_cell? w _ hx308_0)).trans hx308_0
                                replace p308 := eq_true p308
                                replace q308 := eq_true q308
                                obtain ⟨Ao84, co84, eo84⟩ := Kd.R_slice HO_6.out
                                subst eo84
                                have p325 : 0 ≤ (x39_2 : Int) := of_decide_eq_true (by first | (with_reducible assumption) | assumption)
                                have q325 : x39_2 < (t303.length : Int) := of_decide_eq_true (by first | (with_reducible assumption) | assumption)
                                obtain ⟨ad325, e325, hx325_0⟩ := Kd.at_int (Kd.R_reads' HO_6.out).2.2 x39_2 p325 q325
                                cases e325
                                replace p325 := eq_true p325
                                replace q325 := eq_true q325
                                go_wp2
                                go_ret
                                exact ⟨by first | rfl | (simp [errW_none, errW_some] <;> rfl) | (simp [*, errW_none, errW_some] <;> rfl), by repeat (first | (with_reducible first | exact HB.out | apply below_alloc | apply pw_below_drewN | apply below_drew1) | exact HB.out)⟩
                            · rw [if_neg c79] at H
                              exact absurd H (by simp)
                      · rw [if_neg c62] at H
                        have c62b0 : decide (57343 < (rd l0 x39_2)) = false := decide_eq_false c62
                        clear c62
                        by_cases c85 : x39_2 < (t303.length : Int)
                        · rw [if_pos c85] at H
                          have c85b0 : decide (x39_2 < (t303.length : Int)) = true := decide_eq_true c85
                          clear c85
                          by_cases c86 : (rd t303 x39_2) = 65533
                          · rw [if_pos c86] at H
                            have c86b0 : ((rd t303 x39_2) == 65533) = true := beq_iff_eq.mpr c86
                            have c86b1 : ((rd t303 x39_2) != 65533) = false := bne_eq_false_iff_eq.mpr c86
                            clear c86
                            replace H := Option.bind_eq_some_iff.mp H
                            obtain ⟨t328, A870, H⟩ := H
                            replace H : (bastionlaw02_UtfBack.l0 k2 a1 t302 t303 (wrap64 (x7_2 + t328)) l0 (l0.length : Int) (wrap64 (x39_2 + 1))) = some r := H
                            have A87 := Aside0.mk A870
                            clear A870
                            have H' := Aside0.mk H
                            clear H
                            have p308 : 0 ≤ (x39_2 : Int) := of_decide_eq_true (by first | (with_reducible assumption) | assumption)
                            have q308 : x39_2 < (l0.length : Int) := of_decide_eq_true (by first | (with_reducible assumption) | assumption)
                            obtain ⟨ad308, e308, hx308_0⟩ := Kd.at_int HR0.out x39_2 p308 q308
                            cases e308
                            replace hx308_0 := (HB.out.cell (World.block_lt_of_cell? w _ hx308_0)).trans hx308_0
                            replace p308 := eq_true p308
                            replace q308 := eq_true q308
                            obtain ⟨Ao88, co88, eo88⟩ := Kd.R_slice HO_6.out
                            subst eo88
                            have p327 : 0 ≤ (x39_2 : Int) := of_decide_eq_true (by first | (with_reducible assumption) | assumption)
                            have q327 : x39_2 < (t303.length : Int) := of_decide_eq_true (by first | (with_reducible assumption) | assumption)
                            obtain ⟨ad327, e327, hx327_0⟩ := Kd.at_int (Kd.R_reads' HO_6.out).2.2 x39_2 p327 q327
                            cases e327
                            replace p327 := eq_true p327
                            replace q327 := eq_true q327
                            go_wp2_with (first | ((with_reducible refine gate_callee (f := 12) rfl ?_); refine goesL_ (some 80) rfl rfl Tryd.func12 (by kernel_rfl) rfl #[.int .i32 (rd l0 x39_2)] rfl (by (try simp only [List.map_toArray, List.map_cons, List.map_nil]); first | done | rfl | (simp only [List.length_drop, List.length_take]; rfl)) ?_; (with_reducible refine (utf_Width.calls (rd l0 x39_2) t328 _ A87.out).mono ?_); rintro e w89 ⟨rfl, hb⟩; refine ⟨_, rfl, ?_⟩; have n0_ := Aside0.mk (Kd.R_below (by (with_reducible repeat (first | apply Kd.R_alloc | apply Kd.R_drewN | apply Kd.R_drew)); exact HO_6.out) hb); have n1_ := Aside0.mk (below_step (by repeat (first | (with_reducible first | exact HB.out | apply below_alloc | apply pw_below_drewN | apply below_drew1) | exact HB.out)) hb); clear HO_6; clear HB; have HO_6 := n0_; have HB := n1_; clear n0_ n1_; (try clear hb); (try clear hb2); (try clear hk); (try clear hi)))
                            go_roundg k2
                            case measure => have := HJ6.out; have := HK2.out; omega
                            case rel => exact ⟨(wrap64 (x7_2 + t328)), (wrap64 (x39_2 + 1)), (by first | rfl | (simp; done) | (simp [*]; done)), (by first | rfl | (simp; done) | (simp [*]; done)), H', ⟨by have := HJ6.out; have := HK2.out; omega⟩, ⟨by (with_reducible repeat (first | apply Kd.R_alloc | apply Kd.R_drewN | apply Kd.R_drew)); exact HO_6.out⟩, ⟨by repeat (first | (with_reducible first | exact HB.out | apply below_alloc | apply pw_below_drewN | apply below_drew1) | exact HB.out)⟩⟩
                          · rw [if_neg c86] at H
                            have c86b0 : ((rd t303 x39_2) == 65533) = false := beq_eq_false_iff_ne.mpr c86
                            have c86b1 : ((rd t303 x39_2) != 65533) = true := bne_iff_ne.mpr c86
                            obtain rfl := Option.some.inj H
                            have p308 : 0 ≤ (x39_2 : Int) := of_decide_eq_true (by first | (with_reducible assumption) | assumption)
                            have q308 : x39_2 < (l0.length : Int) := of_decide_eq_true (by first | (with_reducible assumption) | assumption)
                            obtain ⟨ad308, e308, hx308_0⟩ := Kd.at_int HR0.out x39_2 p308 q308
                            cases e308
                            replace hx308_0 := (HB.out.cell (World.block_lt_of_cell? w _ hx308_0)).trans hx308_0
                            replace p308 := eq_true p308
                            replace q308 := eq_true q308
                            obtain ⟨Ao90, co90, eo90⟩ := Kd.R_slice HO_6.out
                            subst eo90
                            have p327 : 0 ≤ (x39_2 : Int) := of_decide_eq_true (by first | (with_reducible assumption) | assumption)
                            have q327 : x39_2 < (t303.length : Int) := of_decide_eq_true (by first | (with_reducible assumption) | assumption)
                            obtain ⟨ad327, e327, hx327_0⟩ := Kd.at_int (Kd.R_reads' HO_6.out).2.2 x39_2 p327 q327
                            cases e327
                            replace p327 := eq_true p327
                            replace q327 := eq_true q327
                            go_wp2
                            go_ret
                            exact ⟨by first | rfl | (simp [errW_none, errW_some] <;> rfl) | (simp [*, errW_none, errW_some] <;> rfl), by repeat (first | (with_reducible first | exact HB.out | apply below_alloc | apply pw_below_drewN | apply below_drew1) | exact HB.out)⟩
                        · rw [if_neg c85] at H
                          exact absurd H (by simp)
                  · exact absurd (by first | exact of_eq_true c22b0 | exact of_decide_eq_true c22b0 | exact beq_iff_eq.mp c22b0 | assumption) c24
                · rw [if_neg c23] at H
                  exact absurd H (by simp)
              · rw [if_neg c22] at H
                have c22b0 : decide (x39_2 < (l0.length : Int)) = false := decide_eq_false c22
                clear c22
                replace H := Option.bind_eq_some_iff.mp H
                obtain ⟨t329, A910, H⟩ := H
                replace H : (if t302.size + a1.size ≤ 9223372036854775807 then ((utf_Decode.f (t302 ++ a1)).bind fun t332 => (if x7_2 = (t302.size : Int) then ((some (([] : List Int) : List Int)).bind fun y335 => (if y335.length + t303.length < 35184372088832 then ((some (y335 ++ t303 : List Int)).bind fun y338 => (if y338.length + t329.length < 35184372088832 then ((bastionref02_Same.f k2 (y338 ++ t329) t332).bind fun t344 => (bastionlaw02_UtfBack.j2 k2 a1 t329 (!t344))) else (none))) else (none))) else (bastionlaw02_UtfBack.j2 k2 a1 t329 true))) else (none)) = some r := H
                have A91 := Aside0.mk A910
                clear A910
                by_cases c92 : t302.size + a1.size ≤ 9223372036854775807
                · rw [if_pos c92] at H
                  have c92b0 := eq_true c92
                  have c92b1 : decide (t302.size + a1.size ≤ 9223372036854775807) = true := decide_eq_true c92
                  try have c92b2 : (9223372036854775807 < t302.size + a1.size) = False := eq_false (Nat.not_lt.2 c92)
                  replace H := Option.bind_eq_some_iff.mp H
                  obtain ⟨t332, A930, H⟩ := H
                  replace H : (if x7_2 = (t302.size : Int) then ((some (([] : List Int) : List Int)).bind fun y335 => (if y335.length + t303.length < 35184372088832 then ((some (y335 ++ t303 : List Int)).bind fun y338 => (if y338.length + t329.length < 35184372088832 then ((bastionref02_Same.f k2 (y338 ++ t329) t332).bind fun t344 => (bastionlaw02_UtfBack.j2 k2 a1 t329 (!t344))) else (none))) else (none))) else (bastionlaw02_UtfBack.j2 k2 a1 t329 true)) = some r := H
                  have A93 := Aside0.mk A930
                  clear A930
                  have HC94 := Aside0.mk H
                  clear H
                  go_upto_region 17 with (first | ((with_reducible refine gate_callee (f := 15) rfl ?_); refine goesL_ (some 84) rfl rfl Tryd.func15 (by kernel_rfl) rfl #[.string a1] rfl (by (try simp only [List.map_toArray, List.map_cons, List.map_nil]); first | done | rfl | (simp only [List.length_drop, List.length_take]; rfl)) ?_; (with_reducible refine (utf_Decode.calls a1 t329 _ ?side1 A91.out).mono ?_); (case side1 => exact UTabs.below HTB.out (by repeat (first | (with_reducible first | exact HB.out | apply below_alloc | apply pw_below_drewN | apply below_drew1) | exact HB.out))); rintro e w95 ⟨v330, rfl, ho0, hb⟩; refine ⟨_, rfl, ?_⟩; have n0_ := Aside0.mk (Kd.R_elder' (by (with_reducible repeat (first | apply Kd.R_alloc | apply Kd.R_drewN | apply Kd.R_drew)); exact HO_6.out) (Kd.R_base ho0) hb); have n1_ := Aside0.mk (Kd.R_lower (Kd.R_new' ho0 (Kd.R_lt (by (with_reducible repeat (first | apply Kd.R_alloc | apply Kd.R_drewN | apply Kd.R_drew)); exact HO_6.out))) (below_size (by repeat (first | (with_reducible first | exact HB.out | apply below_alloc | apply pw_below_drewN | apply below_drew1) | exact HB.out)))); have n2_ := Aside0.mk (below_step (by repeat (first | (with_reducible first | exact HB.out | apply below_alloc | apply pw_below_drewN | apply below_drew1) | exact HB.out)) hb); clear HO_6; clear HB; have HO_6 := n0_; have HO331 := n1_; have HB := n2_; clear n0_ n1_ n2_; (try clear hb); (try clear hb2); (try clear hk); (try clear hi); (try clear ho0)) | ((with_reducible refine gate_callee (f := 15) rfl ?_); refine goesL_ (some 88) rfl rfl Tryd.func15 (by kernel_rfl) rfl #[.string (t302 ++ a1)] rfl (by (try simp only [List.map_toArray, List.map_cons, List.map_nil]); first | done | rfl | (simp only [List.length_drop, List.length_take]; rfl)) ?_; (with_reducible refine (utf_Decode.calls (t302 ++ a1) t332 _ ?side1 A93.out).mono ?_); (case side1 => exact UTabs.below HTB.out (by repeat (first | (with_reducible first | exact HB.out | apply below_alloc | apply pw_below_drewN | apply below_drew1) | exact HB.out))); rintro e w96 ⟨v333, rfl, ho0, hb⟩; refine ⟨_, rfl, ?_⟩; have n0_ := Aside0.mk (Kd.R_elder' (by (with_reducible repeat (first | apply Kd.R_alloc | apply Kd.R_drewN | apply Kd.R_drew)); exact HO_6.out) (Kd.R_base ho0) hb); have n1_ := Aside0.mk (Kd.R_elder' (by (with_reducible repeat (first | apply Kd.R_alloc | apply Kd.R_drewN | apply Kd.R_drew)); exact HO331.out) (Kd.R_base ho0) hb); have n2_ := Aside0.mk (Kd.R_lower (Kd.R_new' (Kd.R_new' ho0 (Kd.R_lt (by (with_reducible repeat (first | apply Kd.R_alloc | apply Kd.R_drewN | apply Kd.R_drew)); exact HO_6.out))) (Kd.R_lt (by (with_reducible repeat (first | apply Kd.R_alloc | apply Kd.R_drewN | apply Kd.R_drew)); exact HO331.out))) (below_size (by repeat (first | (with_reducible first | exact HB.out | apply below_alloc | apply pw_below_drewN | apply below_drew1) | exact HB.out)))); have n3_ := Aside0.mk (below_step (by repeat (first | (with_reducible first | exact HB.out | apply below_alloc | apply pw_below_drewN | apply below_drew1) | exact HB.out)) hb); clear HO_6; clear HO331; clear HB; have HO_6 := n0_; have HO331 := n1_; have HO334 := n2_; have HB := n3_; clear n0_ n1_ n2_ n3_; (try clear hb); (try clear hb2); (try clear hk); (try clear hi); (try clear ho0)))
                  (try simp only [Act.put, List.setIfInBounds_toArray, List.set_cons_zero, List.set_cons_succ])
                  go_cut [102] (fun v102 wc => ∃ (kq : Nat) (x102_93 : Bool), v102 = .bool x102_93 ∧ Aside0 (bastionlaw02_UtfBack.j2 kq a1 t329 x102_93 = some r) ∧ Aside0 (kq ≤ k2) ∧ Aside0 (Kd.R (Kd.int .i32) 21 wc w.heap.size (fun _ => True) v330 t329) ∧ Aside0 (Below w.heap.size w wc))
                  case first =>
                    have H := HC94.out
                    clear HC94
                    by_cases c97 : x7_2 = (t302.size : Int)
                    · rw [if_pos c97] at H
                      have c97b0 : (x7_2 == (t302.size : Int)) = true := beq_iff_eq.mpr c97
                      have c97b1 : (x7_2 != (t302.size : Int)) = false := bne_eq_false_iff_eq.mpr c97
                      clear c97
                      (first | rw [c97b0] | (simp only [i64_w, i32_w]; rw [c97b0]) | skip)
                      obtain ⟨y335, hy335⟩ : ∃ y_ : List Int, y_ = (([] : List Int)) := ⟨_, rfl⟩
                      replace H : (if y335.length + t303.length < 35184372088832 then ((some (y335 ++ t303 : List Int)).bind fun y338 => (if y338.length + t329.length < 35184372088832 then ((bastionref02_Same.f k2 (y338 ++ t329) t332).bind fun t344 => (bastionlaw02_UtfBack.j2 k2 a1 t329 (!t344))) else (none))) else (none)) = some r := by first | (rw [hy335]; with_reducible exact H) | (have H2_ := (Option.bind_some _ _).symm.trans H; rw [hy335]; with_reducible exact H2_) | (have H2_ := (Option.bind_some _ _).symm.trans H; with_reducible exact H2_) | with_reducible exact H | (rw [hy335]; exact H) | exact H
                      have Ny335 := Aside0.mk hy335
                      clear hy335
                      by_cases c98 : y335.length + t303.length < 35184372088832
                      · rw [if_pos c98] at H
                        have LMc98 := Aside0.mk c98
                        clear c98
                        obtain ⟨y338, hy338⟩ : ∃ y_ : List Int, y_ = (y335 ++ t303) := ⟨_, rfl⟩
                        replace H : (if y338.length + t329.length < 35184372088832 then ((bastionref02_Same.f k2 (y338 ++ t329) t332).bind fun t344 => (bastionlaw02_UtfBack.j2 k2 a1 t329 (!t344))) else (none)) = some r := by first | (rw [hy338]; with_reducible exact H) | (have H2_ := (Option.bind_some _ _).symm.trans H; rw [hy338]; with_reducible exact H2_) | (have H2_ := (Option.bind_some _ _).symm.trans H; with_reducible exact H2_) | with_reducible exact H | (rw [hy338]; exact H) | exact H
                        have Ny338 := Aside0.mk hy338
                        clear hy338
                        by_cases c99 : y338.length + t329.length < 35184372088832
                        · rw [if_pos c99] at H
                          have LMc99 := Aside0.mk c99
                          clear c99
                          obtain ⟨y341, hy341⟩ : ∃ y_ : List Int, y_ = (y338 ++ t329) := ⟨_, rfl⟩
                          replace H : ((bastionref02_Same.f k2 y341 t332).bind fun t344 => (bastionlaw02_UtfBack.j2 k2 a1 t329 (!t344))) = some r := by first | (rw [hy341]; with_reducible exact H) | (have H2_ := (Option.bind_some _ _).symm.trans H; rw [hy341]; with_reducible exact H2_) | (have H2_ := (Option.bind_some _ _).symm.trans H; with_reducible exact H2_) | with_reducible exact H | (rw [hy341]; exact H) | exact H
                          have Ny341 := Aside0.mk hy341
                          clear hy341
                          replace H := Option.bind_eq_some_iff.mp H
                          obtain ⟨t344, A1000, H⟩ := H
                          replace H : (bastionlaw02_UtfBack.j2 k2 a1 t329 (!t344)) = some r := H
                          have A100 := Aside0.mk A1000
                          clear A1000
                          have H' := Aside0.mk H
                          clear H
                          go_wp2_with (first | ((with_reducible refine gate_dst (N := 94) rfl ?_); (try (refine gate_guard (by rfl) ?_; dsimp only)); refine Kd.R_lit (Kd.int .i32) _ 21 ?hg (N := 94) ?hd (xs := ([] : List Int)) (inner := []) (ok := fun _ => True) (okp := fun _ => True) ?hr ?hp (fun _ hk => hk) trivial (Below.refl _ _) (Nat.le_refl _) (by simp) ?_; (case hd => rfl); (case hg => rfl); (case hr => first | (go_simp; done) | (go_simp; rfl)); (case hp => exact (Reps.none _ _)); intro v336 w101 ho102 hb hg_ hnew_; clear hg_ hnew_; (first | rw [← Ny335.out] at ho102 | (simp only [Int.reduceToNat] at ho102; rw [← Ny335.out] at ho102)); have n0_ := Aside0.mk (Kd.R_elder' (by (with_reducible repeat (first | apply Kd.R_alloc | apply Kd.R_drewN | apply Kd.R_drew)); exact HO_6.out) (Kd.R_base ho102) hb); have n1_ := Aside0.mk (Kd.R_elder' (by (with_reducible repeat (first | apply Kd.R_alloc | apply Kd.R_drewN | apply Kd.R_drew)); exact HO331.out) (Kd.R_base ho102) hb); have n2_ := Aside0.mk (Kd.R_elder' (by (with_reducible repeat (first | apply Kd.R_alloc | apply Kd.R_drewN | apply Kd.R_drew)); exact HO334.out) (Kd.R_base ho102) hb); have n3_ := Aside0.mk (Kd.R_lower (Kd.R_new' (Kd.R_new' (Kd.R_new' ho102 (Kd.R_lt (by (with_reducible repeat (first | apply Kd.R_alloc | apply Kd.R_drewN | apply Kd.R_drew)); exact HO_6.out))) (Kd.R_lt (by (with_reducible repeat (first | apply Kd.R_alloc | apply Kd.R_drewN | apply Kd.R_drew)); exact HO331.out))) (Kd.R_lt (by (with_reducible repeat (first | apply Kd.R_alloc | apply Kd.R_drewN | apply Kd.R_drew)); exact HO334.out))) (below_size (by repeat (first | (with_reducible first | exact HB.out | apply below_alloc | apply pw_below_drewN | apply below_drew1) | exact HB.out)))); have n4_ := Aside0.mk (below_step (by repeat (first | (with_reducible first | exact HB.out | apply below_alloc | apply pw_below_drewN | apply below_drew1) | exact HB.out)) hb); clear HO_6; clear HO331; clear HO334; clear HB; have HO_6 := n0_; have HO331 := n1_; have HO334 := n2_; have HO337 := n3_; have HB := n4_; clear n0_ n1_ n2_ n3_ n4_; clear hb ho102; obtain ⟨Ao104, co104, eo104⟩ := Kd.R_slice HO_6.out; subst eo104) | ((with_reducible refine gate_builtin (b := .append) (xs := #[.tmp 94, .tmp 95]) rfl ?_); (try (refine gate_guard (by rfl) ?_; dsimp only)); at_builtin; refine Kd.R_append_rows (Kd.int .i32) (w0 := w) w.heap.size rfl (.tmp 94) (.tmp 95) 22 21 (.int .i32 0) 4 rfl Tryd.underlying22 info21 rfl (by decide) (by omega) v336 y335 t303 _ _ _ (fun k_ => some k_ ≠ (.slice Ao104 t303.length co104 : Value).ownBlock ∧ some k_ ≠ (v330 : Value).ownBlock ∧ some k_ ≠ (v333 : Value).ownBlock) (fun _ => False) rfl rfl ?aO ?aR (fun _ _ h => h) (fun _ h => h.elim) ?aF ?aB ?aS ?aL ?_; (case aR => repeat (first | exact (Kd.R_reads' HO_6.out).2.2 | (with_reducible refine Kd.C_alloc ?_ _) | (with_reducible refine Kd.C_drewN ?_ _) | (with_reducible refine Kd.C_drew ?_))); (case aB => exact (by repeat (first | (with_reducible first | exact HB.out | apply below_alloc | apply pw_below_drewN | apply below_drew1) | exact HB.out))); (case aF => exact (fun k_ hk => ⟨Kd.fresh' (Kd.R_lt (by (with_reducible repeat (first | apply Kd.R_alloc | apply Kd.R_drewN | apply Kd.R_drew)); exact HO_6.out)) k_ hk, Kd.fresh' (Kd.R_lt (by (with_reducible repeat (first | apply Kd.R_alloc | apply Kd.R_drewN | apply Kd.R_drew)); exact HO331.out)) k_ hk, Kd.fresh' (Kd.R_lt (by (with_reducible repeat (first | apply Kd.R_alloc | apply Kd.R_drewN | apply Kd.R_drew)); exact HO334.out)) k_ hk⟩)); (case aO => exact (by (with_reducible repeat (first | apply Kd.R_alloc | apply Kd.R_drewN | apply Kd.R_drew)); exact Kd.R_mono HO337.out (fun _ hk => ⟨hk.1.1.2, ⟨hk.1.2, hk.2⟩⟩))); (case aS => exact (below_size (by repeat (first | (with_reducible first | exact HB.out | apply below_alloc | apply pw_below_drewN | apply below_drew1) | exact HB.out)))); (case aL => have := LMc98.out; omega); intro v339 w103 ho hb hg hat; rw [← Ny338.out] at ho; have n0_ := Aside0.mk (Kd.R_after (ok := (fun k_ => some k_ ≠ (v330 : Value).ownBlock ∧ some k_ ≠ (v333 : Value).ownBlock)) (by (with_reducible repeat (first | apply Kd.R_alloc | apply Kd.R_drewN | apply Kd.R_drew)); exact Kd.R_mono HO_6.out (fun _ hk => ⟨⟨hk.1.1.2, hk.1.2⟩, hk.2⟩)) hg hat); have n1_ := Aside0.mk (Kd.R_after (ok := (fun k_ => some k_ ≠ (.slice Ao104 t303.length co104 : Value).ownBlock ∧ some k_ ≠ (v333 : Value).ownBlock)) (by (with_reducible repeat (first | apply Kd.R_alloc | apply Kd.R_drewN | apply Kd.R_drew)); exact Kd.R_mono HO331.out (fun _ hk => ⟨⟨hk.1.1.2, hk.1.2⟩, hk.2⟩)) hg hat); have n2_ := Aside0.mk (Kd.R_after (ok := (fun k_ => some k_ ≠ (.slice Ao104 t303.length co104 : Value).ownBlock ∧ some k_ ≠ (v330 : Value).ownBlock)) (by (with_reducible repeat (first | apply Kd.R_alloc | apply Kd.R_drewN | apply Kd.R_drew)); exact Kd.R_mono HO334.out (fun _ hk => ⟨⟨hk.1.1.2, hk.1.2⟩, hk.2⟩)) hg hat); have n3_ := Aside0.mk (hb); have n4_ := Aside0.mk (ho); clear HO_6; clear HO331; clear HO334; clear HB; clear HO337; have HO_6 := n0_; have HO331 := n1_; have HO334 := n2_; have HB := n3_; have HO340 := n4_; clear n0_ n1_ n2_ n3_ n4_; clear ho hb hg hat; obtain ⟨Ao106, co106, eo106⟩ := Kd.R_slice HO331.out; subst eo106) | ((with_reducible refine gate_builtin (b := .append) (xs := #[.tmp 96, .tmp 97]) rfl ?_); (try (refine gate_guard (by rfl) ?_; dsimp only)); at_builtin; refine Kd.R_append_rows (Kd.int .i32) (w0 := w) w.heap.size rfl (.tmp 96) (.tmp 97) 22 21 (.int .i32 0) 4 rfl Tryd.underlying22 info21 rfl (by decide) (by omega) v339 y338 t329 _ _ _ (fun k_ => some k_ ≠ (.slice Ao104 t303.length co104 : Value).ownBlock ∧ some k_ ≠ (.slice Ao106 t329.length co106 : Value).ownBlock ∧ some k_ ≠ (v333 : Value).ownBlock) (fun _ => False) rfl rfl ?aO ?aR (fun _ _ h => h) (fun _ h => h.elim) ?aF ?aB ?aS ?aL ?_; (case aR => repeat (first | exact (Kd.R_reads' HO331.out).2.2 | (with_reducible refine Kd.C_alloc ?_ _) | (with_reducible refine Kd.C_drewN ?_ _) | (with_reducible refine Kd.C_drew ?_))); (case aB => exact (by repeat (first | (with_reducible first | exact HB.out | apply below_alloc | apply pw_below_drewN | apply below_drew1) | exact HB.out))); (case aF => exact (fun k_ hk => ⟨Kd.fresh' (Kd.R_lt (by (with_reducible repeat (first | apply Kd.R_alloc | apply Kd.R_drewN | apply Kd.R_drew)); exact HO_6.out)) k_ hk, Kd.fresh' (Kd.R_lt (by (with_reducible repeat (first | apply Kd.R_alloc | apply Kd.R_drewN | apply Kd.R_drew)); exact HO331.out)) k_ hk, Kd.fresh' (Kd.R_lt (by (with_reducible repeat (first | apply Kd.R_alloc | apply Kd.R_drewN | apply Kd.R_drew)); exact HO334.out)) k_ hk⟩)); (case aO => exact (by (with_reducible repeat (first | apply Kd.R_alloc | apply Kd.R_drewN | apply Kd.R_drew)); exact HO340.out)); (case aS => exact (below_size (by repeat (first | (with_reducible first | exact HB.out | apply below_alloc | apply pw_below_drewN | apply below_drew1) | exact HB.out)))); (case aL => have := LMc99.out; omega); intro v342 w105 ho hb hg hat; rw [← Ny341.out] at ho; have n0_ := Aside0.mk (Kd.R_after (ok := (fun k_ => some k_ ≠ (.slice Ao106 t329.length co106 : Value).ownBlock ∧ some k_ ≠ (v333 : Value).ownBlock)) (by (with_reducible repeat (first | apply Kd.R_alloc | apply Kd.R_drewN | apply Kd.R_drew)); exact HO_6.out) hg hat); have n1_ := Aside0.mk (Kd.R_after (ok := (fun k_ => some k_ ≠ (.slice Ao104 t303.length co104 : Value).ownBlock ∧ some k_ ≠ (v333 : Value).ownBlock)) (by (with_reducible repeat (first | apply Kd.R_alloc | apply Kd.R_drewN | apply Kd.R_drew)); exact HO331.out) hg hat); have n2_ := Aside0.mk (Kd.R_after (ok := (fun k_ => some k_ ≠ (.slice Ao104 t303.length co104 : Value).ownBlock ∧ some k_ ≠ (.slice Ao106 t329.length co106 : Value).ownBlock)) (by (with_reducible repeat (first | apply Kd.R_alloc | apply Kd.R_drewN | apply Kd.R_drew)); exact HO334.out) hg hat); have n3_ := Aside0.mk (hb); have n4_ := Aside0.mk (ho); clear HO_6; clear HO331; clear HO334; clear HB; clear HO340; have HO_6 := n0_; have HO331 := n1_; have HO334 := n2_; have HB := n3_; have HO343 := n4_; clear n0_ n1_ n2_ n3_ n4_; clear ho hb hg hat; obtain ⟨Ao107, co107, eo107⟩ := Kd.R_slice HO343.out; subst eo107; obtain ⟨Ao108, co108, eo108⟩ := Kd.R_slice HO334.out; subst eo108) | (go_at_call 14; (with_reducible refine (bastionref02_Same.calls k2 _ _ y341 _ _ t332 t344 _ ?side1 ?side2 ?side3 ?side4 A100.out).mono ?_); (case side1 => repeat (first | exact (Kd.R_reads' HO343.out).2.2 | (with_reducible refine Kd.C_alloc ?_ _) | (with_reducible refine Kd.C_drewN ?_ _) | (with_reducible refine Kd.C_drew ?_))); (case side2 => exact (Kd.R_reads' HO343.out).2.1); (case side3 => repeat (first | exact (Kd.R_reads' HO334.out).2.2 | (with_reducible refine Kd.C_alloc ?_ _) | (with_reducible refine Kd.C_drewN ?_ _) | (with_reducible refine Kd.C_drew ?_))); (case side4 => exact (Kd.R_reads' HO334.out).2.1); rintro e w' ⟨rfl, ⟨nd, rfl⟩⟩))
                          go_meet
                          case rel => exact ⟨_, (!t344), (by first | rfl | (simp; done) | (simp [*]; done)), H', ⟨by have := HJ6.out; have := HK2.out; first | omega | exact Nat.le_refl _⟩, ⟨by (with_reducible repeat (first | apply Kd.R_alloc | apply Kd.R_drewN | apply Kd.R_drew)); exact Kd.R_mono HO331.out (fun _ hk => trivial)⟩, ⟨by repeat (first | (with_reducible first | exact HB.out | apply below_alloc | apply pw_below_drewN | apply below_drew1) | exact HB.out)⟩⟩
                        · rw [if_neg c99] at H
                          exact absurd H (by simp)
                      · rw [if_neg c98] at H
                        exact absurd H (by simp)
                    · rw [if_neg c97] at H
                      have c97b0 : (x7_2 == (t302.size : Int)) = false := beq_eq_false_iff_ne.mpr c97
                      have c97b1 : (x7_2 != (t302.size : Int)) = true := bne_iff_ne.mpr c97
                      (first | rw [c97b0] | (simp only [i64_w, i32_w]; rw [c97b0]) | skip)
                      have H' := Aside0.mk H
                      clear H
                      go_wp2
                      go_meet
                      case rel => exact ⟨_, (true), (by first | rfl | (simp; done) | (simp [*]; done)), H', ⟨by have := HJ6.out; have := HK2.out; first | omega | exact Nat.le_refl _⟩, ⟨by (with_reducible repeat (first | apply Kd.R_alloc | apply Kd.R_drewN | apply Kd.R_drew)); exact Kd.R_mono HO331.out (fun _ hk => trivial)⟩, ⟨by repeat (first | (with_reducible first | exact HB.out | apply below_alloc | apply pw_below_drewN | apply below_drew1) | exact HB.out)⟩⟩
                  case rest =>
                    clear HC94
                    try clear c1
                    try clear c2
                    try clear p2
                    try clear c3
                    try clear p3
                    try clear q3
                    try clear hx3
                    try clear c4
                    try clear c5
                    try clear c6
                    try clear p6
                    try clear c7
                    try clear c8
                    try clear c9
                    try clear c12
                    try clear c15
                    try clear c22
                    try clear c22b0
                    try clear c23
                    try clear c24
                    try clear c25
                    try clear c25b0
                    try clear p30
                    try clear q30
                    try clear hx30
                    try clear p31
                    try clear q31
                    try clear hx31
                    try clear p32
                    try clear q32
                    try clear hx32
                    try clear c33
                    try clear c33b0
                    try clear c34
                    try clear c34b0
                    try clear c35
                    try clear c36
                    try clear c36b0
                    try clear c36b1
                    try clear c41
                    try clear c41b0
                    try clear c41b1
                    try clear c47
                    try clear c47b0
                    try clear c50
                    try clear c50b0
                    try clear c51
                    try clear c51b0
                    try clear c51b1
                    try clear c56
                    try clear c56b0
                    try clear c57
                    try clear c57b0
                    try clear c57b1
                    try clear c62
                    try clear c62b0
                    try clear c63
                    try clear c63b0
                    try clear c64
                    try clear c64b0
                    try clear p64
                    try clear c65
                    try clear c65b0
                    try clear c65b1
                    try clear c66
                    try clear c66b0
                    try clear c70
                    try clear c70b0
                    try clear c70b1
                    try clear c76
                    try clear c76b0
                    try clear c79
                    try clear c79b0
                    try clear c80
                    try clear c80b0
                    try clear c80b1
                    try clear c85
                    try clear c85b0
                    try clear c86
                    try clear c86b0
                    try clear c86b1
                    try clear c92
                    try clear c92b0
                    try clear c92b1
                    try clear c92b2
                    try clear c97
                    try clear c97b0
                    try clear c97b1
                    try clear c98
                    try clear c99
                    try clear hx308_0
                    try clear hx311_0
                    try clear hx313_0
                    try clear hx316_0
                    try clear hx318_0
                    try clear hx320_0
                    try clear hx322_0
                    try clear hx325_0
                    try clear hx327_0
                    try clear p308
                    try clear p311
                    try clear p313
                    try clear p316
                    try clear p318
                    try clear p320
                    try clear p322
                    try clear p325
                    try clear p327
                    try clear q308
                    try clear q311
                    try clear q313
                    try clear q316
                    try clear q318
                    try clear q320
                    try clear q322
                    try clear q325
                    try clear q327
                    obtain ⟨kq, x102_93, rfl, HA, HJ93, HO_11, HB⟩ := hcut
                    cases kq with
                    | zero => exact absurd HA.out (by simp [bastionlaw02_UtfBack.j2])
                    | succ kj93 =>
                      have H := HA.out
                      clear HA
                      simp only [bastionlaw02_UtfBack.j2] at H
                      by_cases c109 : x102_93 = true
                      · subst c109
                        have H1 : (some false) = some r := by rw [if_pos rfl] at H; exact H
                        clear H
                        have H := H1
                        clear H1
                        obtain rfl := Option.some.inj H
                        go_wp2
                        go_ret
                        exact ⟨by first | rfl | (simp [errW_none, errW_some] <;> rfl) | (simp [*, errW_none, errW_some] <;> rfl), by repeat (first | (with_reducible first | exact HB.out | apply below_alloc | apply pw_below_drewN | apply below_drew1) | exact HB.out)⟩
                      · replace c109 := Bool.eq_false_iff.mpr c109
                        subst c109
                        have H1 : (bastionlaw02_UtfBack.l1 kj93 a1 t329 (t329.length : Int) 0) = some r := by rw [if_neg (show ¬ (false = true) by decide)] at H; exact H
                        clear H
                        have H := H1
                        clear H1
                        have H' := Aside0.mk H
                        clear H
                        obtain ⟨Ao110, co110, eo110⟩ := Kd.R_slice HO_11.out
                        subst eo110
                        go_wp2
                        go_loopg [105] kj93 (fun kq v105 w' => ∃ (x11_4 : List Int) (x105_4 : Int), v105 = .int .i64 x105_4 ∧ Aside0 (bastionlaw02_UtfBack.l1 kq a1 x11_4 (t329.length : Int) x105_4 = some r) ∧ Aside0 (kq ≤ kj93) ∧ Aside0 (Kd.R (Kd.int .i32) 21 w' w.heap.size (fun _ => True) (.slice Ao110 t329.length co110) x11_4) ∧ Aside0 (Below w.heap.size w w'))
                        case atStart => exact ⟨(t329), (0), (by first | rfl | (simp; done) | (simp [*]; done)), H', ⟨Nat.le_refl _⟩, ⟨by (with_reducible repeat (first | apply Kd.R_alloc | apply Kd.R_drewN | apply Kd.R_drew)); exact HO_11.out⟩, ⟨by repeat (first | (with_reducible first | exact HB.out | apply below_alloc | apply pw_below_drewN | apply below_drew1) | exact HB.out)⟩⟩
                        case round =>
                          clear H'
                          try clear c1
                          try clear c2
                          try clear p2
                          try clear c3
                          try clear p3
                          try clear q3
                          try clear hx3
                          try clear c4
                          try clear c5
                          try clear c6
                          try clear p6
                          try clear c7
                          try clear c8
                          try clear c9
                          try clear c10
                          try clear c12
                          try clear c15
                          try clear c22
                          try clear c22b0
                          try clear c23
                          try clear c24
                          try clear c25
                          try clear c25b0
                          try clear p30
                          try clear q30
                          try clear hx30
                          try clear p31
                          try clear q31
                          try clear hx31
                          try clear p32
                          try clear q32
                          try clear hx32
                          try clear c33
                          try clear c33b0
                          try clear c34
                          try clear c34b0
                          try clear c35
                          try clear c36
                          try clear c36b0
                          try clear c36b1
                          try clear c41
                          try clear c41b0
                          try clear c41b1
                          try clear c47
                          try clear c47b0
                          try clear c50
                          try clear c50b0
                          try clear c51
                          try clear c51b0
                          try clear c51b1
                          try clear c56
                          try clear c56b0
                          try clear c57
                          try clear c57b0
                          try clear c57b1
                          try clear c62
                          try clear c62b0
                          try clear c63
                          try clear c63b0
                          try clear c64
                          try clear c64b0
                          try clear p64
                          try clear c65
                          try clear c65b0
                          try clear c65b1
                          try clear c66
                          try clear c66b0
                          try clear c70
                          try clear c70b0
                          try clear c70b1
                          try clear c76
                          try clear c76b0
                          try clear c79
                          try clear c79b0
                          try clear c80
                          try clear c80b0
                          try clear c80b1
                          try clear c85
                          try clear c85b0
                          try clear c86
                          try clear c86b0
                          try clear c86b1
                          try clear c92
                          try clear c92b0
                          try clear c92b1
                          try clear c92b2
                          try clear c97
                          try clear c97b0
                          try clear c97b1
                          try clear c98
                          try clear c99
                          try clear c109
                          try clear hx308_0
                          try clear hx311_0
                          try clear hx313_0
                          try clear hx316_0
                          try clear hx318_0
                          try clear hx320_0
                          try clear hx322_0
                          try clear hx325_0
                          try clear hx327_0
                          try clear p2
                          try clear p3
                          try clear p30
                          try clear p308
                          try clear p31
                          try clear p311
                          try clear p313
                          try clear p316
                          try clear p318
                          try clear p32
                          try clear p320
                          try clear p322
                          try clear p325
                          try clear p327
                          try clear p6
                          try clear p64
                          try clear q3
                          try clear q30
                          try clear q308
                          try clear q31
                          try clear q311
                          try clear q313
                          try clear q316
                          try clear q318
                          try clear q32
                          try clear q320
                          try clear q322
                          try clear q325
                          try clear q327
                          obtain ⟨x11_4, x105_4, rfl, HA, HK4, HO_11, HB⟩ := hrel
                          have hl11_4 := (Kd.R_reads' HO_11.out).1
                          rw [hl11_4] at HO_11
                          (try simp only [hl11_4])
                          cases gk with
                          | zero => exact absurd HA.out (by simp [bastionlaw02_UtfBack.l1])
                          | succ k4 =>
                            have H := HA.out
                            clear HA
                            simp only [bastionlaw02_UtfBack.l1] at H
                            by_cases c111 : x105_4 < (t329.length : Int)
                            · rw [if_pos c111] at H
                              have c111b0 : decide (x105_4 < (t329.length : Int)) = true := decide_eq_true c111
                              (try (have c111b9 := c111b0; simp only [hl11_4] at c111b9))
                              clear c111
                              by_cases c112 : 0 ≤ x105_4
                              · rw [if_pos c112] at H
                                have c112b0 : decide (0 ≤ x105_4) = true := decide_eq_true c112
                                clear c112
                                by_cases c113 : x105_4 < (x11_4.length : Int)
                                · rw [if_pos c113] at H
                                  have c113b0 : decide (x105_4 < (x11_4.length : Int)) = true := decide_eq_true c113
                                  (try (have c113b9 := c113b0; simp only [hl11_4] at c113b9))
                                  clear c113
                                  obtain ⟨y345, hy345⟩ : ∃ y_ : List Int, y_ = (x11_4.set (x105_4 : Int).toNat 120) := ⟨_, rfl⟩
                                  replace H : (bastionlaw02_UtfBack.l1 k4 a1 y345 (t329.length : Int) (wrap64 (x105_4 + 1))) = some r := by first | (rw [hy345]; with_reducible exact H) | (have H2_ := (Option.bind_some _ _).symm.trans H; rw [hy345]; with_reducible exact H2_) | (have H2_ := (Option.bind_some _ _).symm.trans H; with_reducible exact H2_) | with_reducible exact H | (rw [hy345]; exact H) | exact H
                                  have Ny345 := Aside0.mk hy345
                                  clear hy345
                                  have H' := Aside0.mk H
                                  clear H
                                  have p114 : 0 ≤ (x105_4 : Int) := of_decide_eq_true (by first | (with_reducible assumption) | assumption)
                                  have q114 : (x105_4 : Int) < ((x11_4.length : Int) : Int) := of_decide_eq_true (by first | (with_reducible assumption) | assumption)
                                  obtain ⟨go114, co114, eo114, gb114, gl114, cl114, HG114⟩ := Kd.R_form HO_11.out (by omega)
                                  (first | cases eo114 | (injection eo114 with ea_ en_ ec_; (first | subst ea_ | (injection ea_ with ea_; subst ea_)); subst ec_; clear en_))
                                  have GB114 := Aside0.mk gb114
                                  have GG114 := Aside0.mk HG114
                                  clear gb114 gl114 HG114
                                  obtain ⟨hx114_0, hf114_0⟩ := Kd.R_celln 0 HO_11.out (x105_4 : Int) p114 q114
                                  replace p114 := eq_true p114
                                  replace q114 := eq_true q114
                                  have HP115 := Kd.R_putg HO_11.out (x105_4 : Int) 120
                                  go_wp2_with (first | ((with_reducible refine gate_store (t := 21) (p := 110) rfl ?_); refine store_event (t := 21) (p := 110) (v := ?vo_w116) (w1 := (wr.setCell ⟨go114, (x105_4 : Int).toNat, none⟩ (.int .i32 120))) ?hg ?ho ?hn ?hr ?_; (case ho => rfl); (case hg => rfl); (case hn => rfl); (case hr => first | (go_simp; done) | (go_simp; rfl)); intro w116 hw; have hg : wr.grownBy w116 (some go114) := (by rw [hw]; exact HP115.2); have hp_ : Kd.R (Kd.int .i32) 21 w116 w.heap.size (fun _ => True) (.slice (some ⟨go114, 0, none⟩) x11_4.length co110) y345 := (by rw [hw, Ny345.out]; exact HP115.1); clear HP115; have n0_ := Aside0.mk (hp_); have n1_ := Aside0.mk ((by rw [hw]; exact below_set (HB.out) GB114.out : Below w.heap.size w w116)); clear HO_11; clear HB; have HO_11 := n0_; have HB := n1_; clear n0_ n1_; clear hg hw hp_))
                                  (try simp only [← hl11_4])
                                  go_roundg k4
                                  case measure => have := HJ6.out; have := HK2.out; have := HJ93.out; have := HK4.out; omega
                                  case rel => exact ⟨(y345), (wrap64 (x105_4 + 1)), (by first | rfl | (simp; done) | (simp [*]; done)), H', ⟨by have := HJ6.out; have := HK2.out; have := HJ93.out; have := HK4.out; omega⟩, ⟨by (try simp only [hl11_4]); (with_reducible repeat (first | apply Kd.R_alloc | apply Kd.R_drewN | apply Kd.R_drew)); exact HO_11.out⟩, ⟨by repeat (first | (with_reducible first | exact HB.out | apply below_alloc | apply pw_below_drewN | apply below_drew1) | exact HB.out)⟩⟩
                                · rw [if_neg c113] at H
                                  exact absurd H (by simp)
                              · rw [if_neg c112] at H
                                exact absurd H (by simp)
                            · rw [if_neg c111] at H
                              have c111b0 : decide (x105_4 < (t329.length : Int)) = false := decide_eq_false c111
                              (try (have c111b9 := c111b0; simp only [hl11_4] at c111b9))
                              clear c111
                              replace H := Option.bind_eq_some_iff.mp H
                              obtain ⟨t346, A1170, H⟩ := H
                              replace H : ((utf_Valid.f t346).bind fun t347 => (if t347 = true then ((utf_Scalar.f t346).bind fun t348 => (if t348.toList = t346.toList then ((utf_Valid.f a1).bind fun t349 => (if ((t346.toList == a1.toList) == t349) = true then ((utf_Decode.f a1).bind fun t350 => ((utf_Encode.f t350).bind fun t353 => (some (t353.toList == t346.toList)))) else (some false))) else (some false))) else (some false))) = some r := H
                              have A117 := Aside0.mk A1170
                              clear A1170
                              replace H := Option.bind_eq_some_iff.mp H
                              obtain ⟨t347, A1180, H⟩ := H
                              replace H : (if t347 = true then ((utf_Scalar.f t346).bind fun t348 => (if t348.toList = t346.toList then ((utf_Valid.f a1).bind fun t349 => (if ((t346.toList == a1.toList) == t349) = true then ((utf_Decode.f a1).bind fun t350 => ((utf_Encode.f t350).bind fun t353 => (some (t353.toList == t346.toList)))) else (some false))) else (some false))) else (some false)) = some r := H
                              have A118 := Aside0.mk A1180
                              clear A1180
                              by_cases c119 : t347 = true
                              · subst c119
                                have H1 : ((utf_Scalar.f t346).bind fun t348 => (if t348.toList = t346.toList then ((utf_Valid.f a1).bind fun t349 => (if ((t346.toList == a1.toList) == t349) = true then ((utf_Decode.f a1).bind fun t350 => ((utf_Encode.f t350).bind fun t353 => (some (t353.toList == t346.toList)))) else (some false))) else (some false))) = some r := by rw [if_pos rfl] at H; exact H
                                clear H
                                have H := H1
                                clear H1
                                replace H := Option.bind_eq_some_iff.mp H
                                obtain ⟨t348, A1200, H⟩ := H
                                replace H : (if t348.toList = t346.toList then ((utf_Valid.f a1).bind fun t349 => (if ((t346.toList == a1.toList) == t349) = true then ((utf_Decode.f a1).bind fun t350 => ((utf_Encode.f t350).bind fun t353 => (some (t353.toList == t346.toList)))) else (some false))) else (some false)) = some r := H
                                have A120 := Aside0.mk A1200
                                clear A1200
                                by_cases c121 : t348.toList = t346.toList
                                · rw [if_pos c121] at H
                                  have c121b0 : (t348.toList == t346.toList) = true := beq_iff_eq.mpr c121
                                  have c121b1 : (t348.toList != t346.toList) = false := bne_eq_false_iff_eq.mpr c121
                                  clear c121
                                  replace H := Option.bind_eq_some_iff.mp H
                                  obtain ⟨t349, A1220, H⟩ := H
                                  replace H : (if ((t346.toList == a1.toList) == t349) = true then ((utf_Decode.f a1).bind fun t350 => ((utf_Encode.f t350).bind fun t353 => (some (t353.toList == t346.toList)))) else (some false)) = some r := H
                                  have A122 := Aside0.mk A1220
                                  clear A1220
                                  by_cases c123 : ((t346.toList == a1.toList) == t349) = true
                                  · rw [if_pos c123] at H
                                    have c123b0 : ((t346.toList == a1.toList) == t349) = true := c123
                                    (try (have c123b1 : decide ((t346.toList == a1.toList) = t349) = true := by simpa using c123))
                                    (try (have c123b2 : ((t346.toList == a1.toList) == t349) = true := by simpa using c123))
                                    clear c123
                                    replace H := Option.bind_eq_some_iff.mp H
                                    obtain ⟨t350, A1240, H⟩ := H
                                    replace H : ((utf_Encode.f t350).bind fun t353 => (some (t353.toList == t346.toList))) = some r := H
                                    have A124 := Aside0.mk A1240
                                    clear A1240
                                    replace H := Option.bind_eq_some_iff.mp H
                                    obtain ⟨t353, A1250, H⟩ := H
                                    replace H : (some (t353.toList == t346.toList)) = some r := H
                                    have A125 := Aside0.mk A1250
                                    clear A1250
                                    obtain rfl := Option.some.inj H
                                    go_wp2_with (first | ((with_reducible refine gate_callee (f := 19) rfl ?_); refine goesL_ (some 113) rfl rfl Tryd.func19 (by kernel_rfl) rfl #[.string a1] rfl (by (try simp only [List.map_toArray, List.map_cons, List.map_nil]); first | done | rfl | (simp only [List.length_drop, List.length_take]; rfl)) ?_; (with_reducible refine (utf_Scalar.calls a1 t346 _ ?side1 A117.out).mono ?_); (case side1 => exact UTabs.below HTB.out (by repeat (first | (with_reducible first | exact HB.out | apply below_alloc | apply pw_below_drewN | apply below_drew1) | exact HB.out))); rintro e w126 ⟨rfl, hb⟩; refine ⟨_, rfl, ?_⟩; have n0_ := Aside0.mk (Kd.R_below (by (with_reducible repeat (first | apply Kd.R_alloc | apply Kd.R_drewN | apply Kd.R_drew)); exact HO_11.out) hb); have n1_ := Aside0.mk (below_step (by repeat (first | (with_reducible first | exact HB.out | apply below_alloc | apply pw_below_drewN | apply below_drew1) | exact HB.out)) hb); clear HO_11; clear HB; have HO_11 := n0_; have HB := n1_; clear n0_ n1_; (try clear hb); (try clear hb2); (try clear hk); (try clear hi)) | ((with_reducible refine gate_callee (f := 16) rfl ?_); refine goesL_ (some 115) rfl rfl Tryd.func16 (by kernel_rfl) rfl #[.string t346] rfl (by (try simp only [List.map_toArray, List.map_cons, List.map_nil]); first | done | rfl | (simp only [List.length_drop, List.length_take]; rfl)) ?_; (with_reducible refine (utf_Valid.calls t346 true _ ?side1 A118.out).mono ?_); (case side1 => exact UTabs.below HTB.out (by repeat (first | (with_reducible first | exact HB.out | apply below_alloc | apply pw_below_drewN | apply below_drew1) | exact HB.out))); rintro e w127 ⟨rfl, hb⟩; refine ⟨_, rfl, ?_⟩; have n0_ := Aside0.mk (Kd.R_below (by (with_reducible repeat (first | apply Kd.R_alloc | apply Kd.R_drewN | apply Kd.R_drew)); exact HO_11.out) hb); have n1_ := Aside0.mk (below_step (by repeat (first | (with_reducible first | exact HB.out | apply below_alloc | apply pw_below_drewN | apply below_drew1) | exact HB.out)) hb); clear HO_11; clear HB; have HO_11 := n0_; have HB := n1_; clear n0_ n1_; (try clear hb); (try clear hb2); (try clear hk); (try clear hi)) | (go_at_call 19; (with_reducible refine (utf_Scalar.calls t346 t348 _ ?side1 A120.out).mono ?_); (case side1 => exact UTabs.below HTB.out (by repeat (first | (with_reducible first | exact HB.out | apply below_alloc | apply pw_below_drewN | apply below_drew1) | exact HB.out))); rintro e w128 ⟨rfl, hb⟩; have n0_ := Aside0.mk (Kd.R_below (by (with_reducible repeat (first | apply Kd.R_alloc | apply Kd.R_drewN | apply Kd.R_drew)); exact HO_11.out) hb); have n1_ := Aside0.mk (below_step (by repeat (first | (with_reducible first | exact HB.out | apply below_alloc | apply pw_below_drewN | apply below_drew1) | exact HB.out)) hb); clear HO_11; clear HB; have HO_11 := n0_; have HB := n1_; clear n0_ n1_; (try clear hb); (try clear hb2); (try clear hk); (try clear hi)) | (go_at_call 16; (with_reducible refine (utf_Valid.calls a1 t349 _ ?side1 A122.out).mono ?_); (case side1 => exact UTabs.below HTB.out (by repeat (first | (with_reducible first | exact HB.out | apply below_alloc | apply pw_below_drewN | apply below_drew1) | exact HB.out))); rintro e w129 ⟨rfl, hb⟩; have n0_ := Aside0.mk (Kd.R_below (by (with_reducible repeat (first | apply Kd.R_alloc | apply Kd.R_drewN | apply Kd.R_drew)); exact HO_11.out) hb); have n1_ := Aside0.mk (below_step (by repeat (first | (with_reducible first | exact HB.out | apply below_alloc | apply pw_below_drewN | apply below_drew1) | exact HB.out)) hb); clear HO_11; clear HB; have HO_11 := n0_; have HB := n1_; clear n0_ n1_; (try clear hb); (try clear hb2); (try clear hk); (try clear hi)) | (go_at_call 15; (with_reducible refine (utf_Decode.calls a1 t350 _ ?side1 A124.out).mono ?_); (case side1 => exact UTabs.below HTB.out (by repeat (first | (with_reducible first | exact HB.out | apply below_alloc | apply pw_below_drewN | apply below_drew1) | exact HB.out))); rintro e w130 ⟨v351, rfl, ho0, hb⟩; have n0_ := Aside0.mk (Kd.R_elder' (by (with_reducible repeat (first | apply Kd.R_alloc | apply Kd.R_drewN | apply Kd.R_drew)); exact HO_11.out) (Kd.R_base ho0) hb); have n1_ := Aside0.mk (Kd.R_lower (Kd.R_new' ho0 (Kd.R_lt (by (with_reducible repeat (first | apply Kd.R_alloc | apply Kd.R_drewN | apply Kd.R_drew)); exact HO_11.out))) (below_size (by repeat (first | (with_reducible first | exact HB.out | apply below_alloc | apply pw_below_drewN | apply below_drew1) | exact HB.out)))); have n2_ := Aside0.mk (below_step (by repeat (first | (with_reducible first | exact HB.out | apply below_alloc | apply pw_below_drewN | apply below_drew1) | exact HB.out)) hb); clear HO_11; clear HB; have HO_11 := n0_; have HO352 := n1_; have HB := n2_; clear n0_ n1_ n2_; (try clear hb); (try clear hb2); (try clear hk); (try clear hi); (try clear ho0); obtain ⟨Ao131, co131, eo131⟩ := Kd.R_slice HO352.out; subst eo131) | (go_at_call 10; (with_reducible refine (utf_Encode.calls _ _ t350 t353 _ ?side1 ?side2 A125.out).mono ?_); (case side1 => repeat (first | exact (Kd.R_reads' HO352.out).2.2 | (with_reducible refine Kd.C_alloc ?_ _) | (with_reducible refine Kd.C_drewN ?_ _) | (with_reducible refine Kd.C_drew ?_))); (case side2 => exact (Kd.R_reads' HO352.out).2.1); rintro e w132 ⟨rfl, hb⟩; have n0_ := Aside0.mk (Kd.R_below (by (with_reducible repeat (first | apply Kd.R_alloc | apply Kd.R_drewN | apply Kd.R_drew)); exact HO_11.out) hb); have n1_ := Aside0.mk (Kd.R_below (by (with_reducible repeat (first | apply Kd.R_alloc | apply Kd.R_drewN | apply Kd.R_drew)); exact HO352.out) hb); have n2_ := Aside0.mk (below_step (by repeat (first | (with_reducible first | exact HB.out | apply below_alloc | apply pw_below_drewN | apply below_drew1) | exact HB.out)) hb); clear HO_11; clear HO352; clear HB; have HO_11 := n0_; have HO352 := n1_; have HB := n2_; clear n0_ n1_ n2_; (try clear hb); (try clear hb2); (try clear hk); (try clear hi)))
                                    go_ret
                                    exact ⟨by first | rfl | (simp [errW_none, errW_some] <;> rfl) | (simp [*, errW_none, errW_some] <;> rfl), by repeat (first | (with_reducible first | exact HB.out | apply below_alloc | apply pw_below_drewN | apply below_drew1) | exact HB.out)⟩
                                  · rw [if_neg c123] at H
                                    have c123b0 : ((t346.toList == a1.toList) == t349) = false := by simpa using c123
                                    (try (have c123b1 : decide ((t346.toList == a1.toList) = t349) = false := by simpa using c123))
                                    (try (have c123b2 : ((t346.toList == a1.toList) == t349) = false := by simpa using c123))
                                    (try (have c123b3 : ¬ ((t346.toList == a1.toList) = t349) := by simpa using c123))
                                    clear c123
                                    obtain rfl := Option.some.inj H
                                    go_wp2_with (first | ((with_reducible refine gate_callee (f := 19) rfl ?_); refine goesL_ (some 113) rfl rfl Tryd.func19 (by kernel_rfl) rfl #[.string a1] rfl (by (try simp only [List.map_toArray, List.map_cons, List.map_nil]); first | done | rfl | (simp only [List.length_drop, List.length_take]; rfl)) ?_; (with_reducible refine (utf_Scalar.calls a1 t346 _ ?side1 A117.out).mono ?_); (case side1 => exact UTabs.below HTB.out (by repeat (first | (with_reducible first | exact HB.out | apply below_alloc | apply pw_below_drewN | apply below_drew1) | exact HB.out))); rintro e w133 ⟨rfl, hb⟩; refine ⟨_, rfl, ?_⟩; have n0_ := Aside0.mk (Kd.R_below (by (with_reducible repeat (first | apply Kd.R_alloc | apply Kd.R_drewN | apply Kd.R_drew)); exact HO_11.out) hb); have n1_ := Aside0.mk (below_step (by repeat (first | (with_reducible first | exact HB.out | apply below_alloc | apply pw_below_drewN | apply below_drew1) | exact HB.out)) hb); clear HO_11; clear HB; have HO_11 := n0_; have HB := n1_; clear n0_ n1_; (try clear hb); (try clear hb2); (try clear hk); (try clear hi)) | ((with_reducible refine gate_callee (f := 16) rfl ?_); refine goesL_ (some 115) rfl rfl Tryd.func16 (by kernel_rfl) rfl #[.string t346] rfl (by (try simp only [List.map_toArray, List.map_cons, List.map_nil]); first | done | rfl | (simp only [List.length_drop, List.length_take]; rfl)) ?_; (with_reducible refine (utf_Valid.calls t346 true _ ?side1 A118.out).mono ?_); (case side1 => exact UTabs.below HTB.out (by repeat (first | (with_reducible first | exact HB.out | apply below_alloc | apply pw_below_drewN | apply below_drew1) | exact HB.out))); rintro e w134 ⟨rfl, hb⟩; refine ⟨_, rfl, ?_⟩; have n0_ := Aside0.mk (Kd.R_below (by (with_reducible repeat (first | apply Kd.R_alloc | apply Kd.R_drewN | apply Kd.R_drew)); exact HO_11.out) hb); have n1_ := Aside0.mk (below_step (by repeat (first | (with_reducible first | exact HB.out | apply below_alloc | apply pw_below_drewN | apply below_drew1) | exact HB.out)) hb); clear HO_11; clear HB; have HO_11 := n0_; have HB := n1_; clear n0_ n1_; (try clear hb); (try clear hb2); (try clear hk); (try clear hi)) | (go_at_call 19; (with_reducible refine (utf_Scalar.calls t346 t348 _ ?side1 A120.out).mono ?_); (case side1 => exact UTabs.below HTB.out (by repeat (first | (with_reducible first | exact HB.out | apply below_alloc | apply pw_below_drewN | apply below_drew1) | exact HB.out))); rintro e w135 ⟨rfl, hb⟩; have n0_ := Aside0.mk (Kd.R_below (by (with_reducible repeat (first | apply Kd.R_alloc | apply Kd.R_drewN | apply Kd.R_drew)); exact HO_11.out) hb); have n1_ := Aside0.mk (below_step (by repeat (first | (with_reducible first | exact HB.out | apply below_alloc | apply pw_below_drewN | apply below_drew1) | exact HB.out)) hb); clear HO_11; clear HB; have HO_11 := n0_; have HB := n1_; clear n0_ n1_; (try clear hb); (try clear hb2); (try clear hk); (try clear hi)) | (go_at_call 16; (with_reducible refine (utf_Valid.calls a1 t349 _ ?side1 A122.out).mono ?_); (case side1 => exact UTabs.below HTB.out (by repeat (first | (with_reducible first | exact HB.out | apply below_alloc | apply pw_below_drewN | apply below_drew1) | exact HB.out))); rintro e w136 ⟨rfl, hb⟩; have n0_ := Aside0.mk (Kd.R_below (by (with_reducible repeat (first | apply Kd.R_alloc | apply Kd.R_drewN | apply Kd.R_drew)); exact HO_11.out) hb); have n1_ := Aside0.mk (below_step (by repeat (first | (with_reducible first | exact HB.out | apply below_alloc | apply pw_below_drewN | apply below_drew1) | exact HB.out)) hb); clear HO_11; clear HB; have HO_11 := n0_; have HB := n1_; clear n0_ n1_; (try clear hb); (try clear hb2); (try clear hk); (try clear hi)))
                                    go_ret
                                    exact ⟨by first | rfl | (simp [errW_none, errW_some] <;> rfl) | (simp [*, errW_none, errW_some] <;> rfl), by repeat (first | (with_reducible first | exact HB.out | apply below_alloc | apply pw_below_drewN | apply below_drew1) | exact HB.out)⟩
                                · rw [if_neg c121] at H
                                  have c121b0 : (t348.toList == t346.toList) = false := beq_eq_false_iff_ne.mpr c121
                                  have c121b1 : (t348.toList != t346.toList) = true := bne_iff_ne.mpr c121
                                  obtain rfl := Option.some.inj H
                                  go_wp2_with (first | ((with_reducible refine gate_callee (f := 19) rfl ?_); refine goesL_ (some 113) rfl rfl Tryd.func19 (by kernel_rfl) rfl #[.string a1] rfl (by (try simp only [List.map_toArray, List.map_cons, List.map_nil]); first | done | rfl | (simp only [List.length_drop, List.length_take]; rfl)) ?_; (with_reducible refine (utf_Scalar.calls a1 t346 _ ?side1 A117.out).mono ?_); (case side1 => exact UTabs.below HTB.out (by repeat (first | (with_reducible first | exact HB.out | apply below_alloc | apply pw_below_drewN | apply below_drew1) | exact HB.out))); rintro e w137 ⟨rfl, hb⟩; refine ⟨_, rfl, ?_⟩; have n0_ := Aside0.mk (Kd.R_below (by (with_reducible repeat (first | apply Kd.R_alloc | apply Kd.R_drewN | apply Kd.R_drew)); exact HO_11.out) hb); have n1_ := Aside0.mk (below_step (by repeat (first | (with_reducible first | exact HB.out | apply below_alloc | apply pw_below_drewN | apply below_drew1) | exact HB.out)) hb); clear HO_11; clear HB; have HO_11 := n0_; have HB := n1_; clear n0_ n1_; (try clear hb); (try clear hb2); (try clear hk); (try clear hi)) | ((with_reducible refine gate_callee (f := 16) rfl ?_); refine goesL_ (some 115) rfl rfl Tryd.func16 (by kernel_rfl) rfl #[.string t346] rfl (by (try simp only [List.map_toArray, List.map_cons, List.map_nil]); first | done | rfl | (simp only [List.length_drop, List.length_take]; rfl)) ?_; (with_reducible refine (utf_Valid.calls t346 true _ ?side1 A118.out).mono ?_); (case side1 => exact UTabs.below HTB.out (by repeat (first | (with_reducible first | exact HB.out | apply below_alloc | apply pw_below_drewN | apply below_drew1) | exact HB.out))); rintro e w138 ⟨rfl, hb⟩; refine ⟨_, rfl, ?_⟩; have n0_ := Aside0.mk (Kd.R_below (by (with_reducible repeat (first | apply Kd.R_alloc | apply Kd.R_drewN | apply Kd.R_drew)); exact HO_11.out) hb); have n1_ := Aside0.mk (below_step (by repeat (first | (with_reducible first | exact HB.out | apply below_alloc | apply pw_below_drewN | apply below_drew1) | exact HB.out)) hb); clear HO_11; clear HB; have HO_11 := n0_; have HB := n1_; clear n0_ n1_; (try clear hb); (try clear hb2); (try clear hk); (try clear hi)) | (go_at_call 19; (with_reducible refine (utf_Scalar.calls t346 t348 _ ?side1 A120.out).mono ?_); (case side1 => exact UTabs.below HTB.out (by repeat (first | (with_reducible first | exact HB.out | apply below_alloc | apply pw_below_drewN | apply below_drew1) | exact HB.out))); rintro e w139 ⟨rfl, hb⟩; have n0_ := Aside0.mk (Kd.R_below (by (with_reducible repeat (first | apply Kd.R_alloc | apply Kd.R_drewN | apply Kd.R_drew)); exact HO_11.out) hb); have n1_ := Aside0.mk (below_step (by repeat (first | (with_reducible first | exact HB.out | apply below_alloc | apply pw_below_drewN | apply below_drew1) | exact HB.out)) hb); clear HO_11; clear HB; have HO_11 := n0_; have HB := n1_; clear n0_ n1_; (try clear hb); (try clear hb2); (try clear hk); (try clear hi)))
                                  go_ret
                                  exact ⟨by first | rfl | (simp [errW_none, errW_some] <;> rfl) | (simp [*, errW_none, errW_some] <;> rfl), by repeat (first | (with_reducible first | exact HB.out | apply below_alloc | apply pw_below_drewN | apply below_drew1) | exact HB.out)⟩
                              · replace c119 := Bool.eq_false_iff.mpr c119
                                subst c119
                                have H1 : (some false) = some r := by rw [if_neg (show ¬ (false = true) by decide)] at H; exact H
                                clear H
                                have H := H1
                                clear H1
                                obtain rfl := Option.some.inj H
                                go_wp2_with (first | ((with_reducible refine gate_callee (f := 19) rfl ?_); refine goesL_ (some 113) rfl rfl Tryd.func19 (by kernel_rfl) rfl #[.string a1] rfl (by (try simp only [List.map_toArray, List.map_cons, List.map_nil]); first | done | rfl | (simp only [List.length_drop, List.length_take]; rfl)) ?_; (with_reducible refine (utf_Scalar.calls a1 t346 _ ?side1 A117.out).mono ?_); (case side1 => exact UTabs.below HTB.out (by repeat (first | (with_reducible first | exact HB.out | apply below_alloc | apply pw_below_drewN | apply below_drew1) | exact HB.out))); rintro e w140 ⟨rfl, hb⟩; refine ⟨_, rfl, ?_⟩; have n0_ := Aside0.mk (Kd.R_below (by (with_reducible repeat (first | apply Kd.R_alloc | apply Kd.R_drewN | apply Kd.R_drew)); exact HO_11.out) hb); have n1_ := Aside0.mk (below_step (by repeat (first | (with_reducible first | exact HB.out | apply below_alloc | apply pw_below_drewN | apply below_drew1) | exact HB.out)) hb); clear HO_11; clear HB; have HO_11 := n0_; have HB := n1_; clear n0_ n1_; (try clear hb); (try clear hb2); (try clear hk); (try clear hi)) | ((with_reducible refine gate_callee (f := 16) rfl ?_); refine goesL_ (some 115) rfl rfl Tryd.func16 (by kernel_rfl) rfl #[.string t346] rfl (by (try simp only [List.map_toArray, List.map_cons, List.map_nil]); first | done | rfl | (simp only [List.length_drop, List.length_take]; rfl)) ?_; (with_reducible refine (utf_Valid.calls t346 false _ ?side1 A118.out).mono ?_); (case side1 => exact UTabs.below HTB.out (by repeat (first | (with_reducible first | exact HB.out | apply below_alloc | apply pw_below_drewN | apply below_drew1) | exact HB.out))); rintro e w141 ⟨rfl, hb⟩; refine ⟨_, rfl, ?_⟩; have n0_ := Aside0.mk (Kd.R_below (by (with_reducible repeat (first | apply Kd.R_alloc | apply Kd.R_drewN | apply Kd.R_drew)); exact HO_11.out) hb); have n1_ := Aside0.mk (below_step (by repeat (first | (with_reducible first | exact HB.out | apply below_alloc | apply pw_below_drewN | apply below_drew1) | exact HB.out)) hb); clear HO_11; clear HB; have HO_11 := n0_; have HB := n1_; clear n0_ n1_; (try clear hb); (try clear hb2); (try clear hk); (try clear hi)))
                                go_ret
                                exact ⟨by first | rfl | (simp [errW_none, errW_some] <;> rfl) | (simp [*, errW_none, errW_some] <;> rfl), by repeat (first | (with_reducible first | exact HB.out | apply below_alloc | apply pw_below_drewN | apply below_drew1) | exact HB.out)⟩
                · rw [if_neg c92] at H
                  exact absurd H (by simp)
  · replace c4 := Bool.eq_false_iff.mpr c4
    subst c4
    have H1 : (some false) = some r := by rw [if_neg (show ¬ (false = true) by decide)] at H; exact H
    clear H
    have H := H1
    clear H1
    obtain rfl := Option.some.inj H
    go_enter Tryd.func7, Tryd.ntmps7
    go_wp2_with (first | ((with_reducible refine gate_callee (f := 9) rfl ?_); refine goesL_ (some 15) rfl rfl Tryd.func9 (by kernel_rfl) rfl #[] rfl (by (try simp only [List.map_toArray, List.map_cons, List.map_nil]); first | done | rfl | (simp only [List.length_drop, List.length_take]; rfl)) ?_; (with_reducible refine (bastionlaw02_lives.calls k  false _ ?side1 A3.out).mono ?_); (case side1 => exact UTabs.below HTB.out (by repeat (first | (with_reducible first | exact HB.out | apply below_alloc | apply pw_below_drewN | apply below_drew1) | exact HB.out))); rintro e w142 ⟨rfl, hb⟩; refine ⟨_, rfl, ?_⟩; have n0_ := Aside0.mk (below_step (by repeat (first | (with_reducible first | exact HB.out | apply below_alloc | apply pw_below_drewN | apply below_drew1) | exact HB.out)) hb); clear HB; have HB := n0_; clear n0_; (try clear hb); (try clear hb2); (try clear hk); (try clear hi)))
    go_ret
    exact ⟨by first | rfl | (simp [errW_none, errW_some] <;> rfl) | (simp [*, errW_none, errW_some] <;> rfl), by repeat (first | (with_reducible first | exact HB.out | apply below_alloc | apply pw_below_drewN | apply below_drew1) | exact HB.out)⟩

/-- THE ONE PURE STATEMENT of bastionlaw02_UtfBack: yours. -/
def bastionlaw02_UtfBack.Pure : Prop := ∀ (l0 : List Int) (a1 : ByteArray), l0.length ≤ maxLen → l0.length * 4 ≤ 140737488351232 → (∀ x ∈ l0, (Lit.int .i32 x).wf = true) → a1.size ≤ 140737488351232 → ∃ k, bastionlaw02_UtfBack.f k l0 a1 = some true
theorem bastionlaw02_UtfBack.walk (P : bastionlaw02_UtfBack.Pure) (a0 : Option Addr) (len0 cap0 : Nat) (z0 : List Int) (a1 : ByteArray) (w : World) (hT : UTabs w) (w0 : (a0 = none ∧ len0 = 0 ∧ cap0 = 0 ∧ z0 = []) ∨ ∃ x, a0 = some x ∧ len0 ≤ cap0 ∧ cap0 ≤ maxLen ∧ z0.length = cap0 ∧ (∀ i, i < z0.length → w.cell? (x.add i) = some (.int .i32 (z0.getD i 0))) ∧ ∀ n ∈ z0, (Lit.int .i32 n).wf = true) (y0 : len0 * 4 ≤ 140737488351232) (w1 : a1.size ≤ 140737488351232) :
    Calls Tryd.prog 7 #[.slice a0 len0 cap0, .string a1] w fun e w' => e = .returned (.bool true) ∧ Below w.heap.size w w' := by
  obtain ⟨l0, rfl, hr0, hm0, hw0, hc0⟩ := ReadsInt.ofRowC w0
  obtain ⟨k, h⟩ := P l0 a1 hm0 y0 hw0 w1
  refine (bastionlaw02_UtfBack.calls k _ _ l0 a1 true w (Kd.C_of_reads (d := (0 : Int)) (h1 := fun _ => rfl) hr0) hc0 hT h).mono ?_
  rintro e w' ⟨rfl, hd⟩
  exact ⟨rfl, hd⟩

end Go.Proofs.YtiobcjgolmiabaaDoor.Q
