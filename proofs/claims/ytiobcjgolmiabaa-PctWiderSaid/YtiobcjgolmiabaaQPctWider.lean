/- Functions of the given program as plain Lean functions, each with the proof that the machine answers as it does; laid by a program of mine over the kit print. -/
import Derived.Test.YtiobcjgolmiabaaQbase
import Derived.Test.YtiobcjgolmiabaaQbastionlaw011
import Derived.Test.YtiobcjgolmiabaaQpct0
namespace Go.Proofs.Ytiobcjgolmiabaa.Q
open Go.RowKit Go.Proofs.YtiobcjgolmiabaaW.PrintWords Go.Proofs.YtiobcjgolmiabaaW.PrintLast Go.Proofs.YtiobcjgolmiabaaW.PrintMore
attribute [local go_sem] max2_int min2_int max_two min_two max_three min_three max_four min_four
set_option linter.unusedVariables false
set_option linter.unusedSimpArgs false

/-! ### bastionlaw01_PctWider: function 6 -/
mutual
def bastionlaw01_PctWider.l0 : Nat → Int → List (List Int) → Int → Int → Option (Bool)
  | 0, _, _, _, _ => none
  | k + 1, x0, x13, x14, x15 => if x15 < x14 then (if 0 ≤ x15 then (if x15 < (x13.length : Int) then (bastionlaw01_PctWider.l1 k x0 (rd_L3 x13 x15) x13 x14 x15 ((rd_L3 x13 x15).length : Int) 0) else (none)) else (none)) else (some true)
def bastionlaw01_PctWider.l1 : Nat → Int → List Int → List (List Int) → Int → Int → Int → Int → Option (Bool)
  | 0, _, _, _, _, _, _, _ => none
  | k + 1, x0, x5, x13, x14, x15, x20, x21 => if x21 < x20 then (if x21 > 0 then (if 0 ≤ (wrap64 (x21 - 1)) then (if (wrap64 (x21 - 1)) < (x5.length : Int) then ((pct_In.f k (rd x5 (wrap64 (x21 - 1))) x0).bind fun t246 => (if t246 = true then (if 0 ≤ x21 then (if x21 < (x5.length : Int) then ((pct_In.f k (rd x5 x21) x0).bind fun t248 => (bastionlaw01_PctWider.j2 k x0 x5 x21 x13 x14 x15 x20 x21 (!t248))) else (none)) else (none)) else (bastionlaw01_PctWider.j2 k x0 x5 x21 x13 x14 x15 x20 x21 false))) else (none)) else (none)) else (bastionlaw01_PctWider.j2 k x0 x5 x21 x13 x14 x15 x20 x21 false)) else (bastionlaw01_PctWider.l0 k x0 x13 x14 (wrap64 (x15 + 1)))
def bastionlaw01_PctWider.j2 : Nat → Int → List Int → Int → List (List Int) → Int → Int → Int → Int → Bool → Option (Bool)
  | 0, _, _, _, _, _, _, _, _, _ => none
  | k + 1, x0, x5, x6, x13, x14, x15, x20, x21, x43 => if x43 = true then (some false) else (if 0 ≤ x6 then (if x6 < (x5.length : Int) then ((pct_In.f k (rd x5 x6) x0).bind fun t250 => (if t250 = true then (if x0 ≥ 97 then (if x0 ≤ 122 then (some false) else (if x0 ≥ 65 then (if x0 ≤ 90 then (some false) else (if x0 ≥ 48 then (if x0 ≤ 57 then (some false) else (bastionlaw01_PctWider.l1 k x0 x5 x13 x14 x15 x20 (wrap64 (x21 + 1)))) else (bastionlaw01_PctWider.l1 k x0 x5 x13 x14 x15 x20 (wrap64 (x21 + 1))))) else (if x0 ≥ 48 then (if x0 ≤ 57 then (some false) else (bastionlaw01_PctWider.l1 k x0 x5 x13 x14 x15 x20 (wrap64 (x21 + 1)))) else (bastionlaw01_PctWider.l1 k x0 x5 x13 x14 x15 x20 (wrap64 (x21 + 1)))))) else (if x0 ≥ 65 then (if x0 ≤ 90 then (some false) else (if x0 ≥ 48 then (if x0 ≤ 57 then (some false) else (bastionlaw01_PctWider.l1 k x0 x5 x13 x14 x15 x20 (wrap64 (x21 + 1)))) else (bastionlaw01_PctWider.l1 k x0 x5 x13 x14 x15 x20 (wrap64 (x21 + 1))))) else (if x0 ≥ 48 then (if x0 ≤ 57 then (some false) else (bastionlaw01_PctWider.l1 k x0 x5 x13 x14 x15 x20 (wrap64 (x21 + 1)))) else (bastionlaw01_PctWider.l1 k x0 x5 x13 x14 x15 x20 (wrap64 (x21 + 1)))))) else (bastionlaw01_PctWider.l1 k x0 x5 x13 x14 x15 x20 (wrap64 (x21 + 1))))) else (none)) else (none))
end
def bastionlaw01_PctWider.f (k : Nat) (a0 : Int) : Option (Bool) := (bastionlaw01_lives.f k).bind fun t231 => (if t231 = true then ((some (([(([1, 2] : List Int)), (([1, 3, 4] : List Int)), (([3, 5, 6, 7, 8] : List Int))] : List (List Int)) : List (List Int))).bind fun y241 => (bastionlaw01_PctWider.l0 k a0 y241 (y241.length : Int) 0)) else (some false))
theorem bastionlaw01_PctWider.mono_l : ∀ k, (∀ y0 y1 y2 y3, LeO (bastionlaw01_PctWider.l0 k y0 y1 y2 y3) (bastionlaw01_PctWider.l0 (k + 1) y0 y1 y2 y3)) ∧ (∀ y0 y1 y2 y3 y4 y5 y6, LeO (bastionlaw01_PctWider.l1 k y0 y1 y2 y3 y4 y5 y6) (bastionlaw01_PctWider.l1 (k + 1) y0 y1 y2 y3 y4 y5 y6)) ∧ (∀ y0 y1 y2 y3 y4 y5 y6 y7 y8, LeO (bastionlaw01_PctWider.j2 k y0 y1 y2 y3 y4 y5 y6 y7 y8) (bastionlaw01_PctWider.j2 (k + 1) y0 y1 y2 y3 y4 y5 y6 y7 y8))
  | 0 => ⟨fun _ _ _ _ r h => by simp [bastionlaw01_PctWider.l0] at h, fun _ _ _ _ _ _ _ r h => by simp [bastionlaw01_PctWider.l1] at h, fun _ _ _ _ _ _ _ _ _ r h => by simp [bastionlaw01_PctWider.j2] at h⟩
  | k + 1 => by
    obtain ⟨ih0, ih1, ih2⟩ := bastionlaw01_PctWider.mono_l k
    refine ⟨?_, ?_, ?_⟩
    · intro y0 y1 y2 y3
      unfold bastionlaw01_PctWider.l0
      repeat' first
      | (with_reducible exact ih0 _ _ _ _)
      | (with_reducible exact ih1 _ _ _ _ _ _ _)
      | (with_reducible exact ih2 _ _ _ _ _ _ _ _ _)
      | (with_reducible exact bastionlaw01_lives.mono _)
      | (with_reducible exact pct_In.mono _ _ _)
      | (with_reducible exact LeO.refl _)
      | (with_reducible exact LeO.none _)
      | (with_reducible refine LeO.ite ?_ ?_)
      | (with_reducible refine LeO.bind ?_ (fun _ => ?_))
      | exact ih0 _ _ _ _
      | exact ih1 _ _ _ _ _ _ _
      | exact ih2 _ _ _ _ _ _ _ _ _
      | exact bastionlaw01_lives.mono _
      | exact pct_In.mono _ _ _
      | exact LeO.none _
      | refine LeO.ite ?_ ?_
      | refine LeO.bind ?_ (fun _ => ?_)
    · intro y0 y1 y2 y3 y4 y5 y6
      unfold bastionlaw01_PctWider.l1
      repeat' first
      | (with_reducible exact ih0 _ _ _ _)
      | (with_reducible exact ih1 _ _ _ _ _ _ _)
      | (with_reducible exact ih2 _ _ _ _ _ _ _ _ _)
      | (with_reducible exact bastionlaw01_lives.mono _)
      | (with_reducible exact pct_In.mono _ _ _)
      | (with_reducible exact LeO.refl _)
      | (with_reducible exact LeO.none _)
      | (with_reducible refine LeO.ite ?_ ?_)
      | (with_reducible refine LeO.bind ?_ (fun _ => ?_))
      | exact ih0 _ _ _ _
      | exact ih1 _ _ _ _ _ _ _
      | exact ih2 _ _ _ _ _ _ _ _ _
      | exact bastionlaw01_lives.mono _
      | exact pct_In.mono _ _ _
      | exact LeO.none _
      | refine LeO.ite ?_ ?_
      | refine LeO.bind ?_ (fun _ => ?_)
    · intro y0 y1 y2 y3 y4 y5 y6 y7 y8
      unfold bastionlaw01_PctWider.j2
      repeat' first
      | (with_reducible exact ih0 _ _ _ _)
      | (with_reducible exact ih1 _ _ _ _ _ _ _)
      | (with_reducible exact ih2 _ _ _ _ _ _ _ _ _)
      | (with_reducible exact bastionlaw01_lives.mono _)
      | (with_reducible exact pct_In.mono _ _ _)
      | (with_reducible exact LeO.refl _)
      | (with_reducible exact LeO.none _)
      | (with_reducible refine LeO.ite ?_ ?_)
      | (with_reducible refine LeO.bind ?_ (fun _ => ?_))
      | exact ih0 _ _ _ _
      | exact ih1 _ _ _ _ _ _ _
      | exact ih2 _ _ _ _ _ _ _ _ _
      | exact bastionlaw01_lives.mono _
      | exact pct_In.mono _ _ _
      | exact LeO.none _
      | refine LeO.ite ?_ ?_
      | refine LeO.bind ?_ (fun _ => ?_)
theorem bastionlaw01_PctWider.mono : ∀ a0 k, LeO (bastionlaw01_PctWider.f k a0) (bastionlaw01_PctWider.f (k + 1) a0) := by
  intro a0 k
  obtain ⟨ih0, ih1, ih2⟩ := bastionlaw01_PctWider.mono_l k
  unfold bastionlaw01_PctWider.f
  repeat' first
      | (with_reducible exact ih0 _ _ _ _)
      | (with_reducible exact ih1 _ _ _ _ _ _ _)
      | (with_reducible exact ih2 _ _ _ _ _ _ _ _ _)
      | (with_reducible exact bastionlaw01_lives.mono _)
      | (with_reducible exact pct_In.mono _ _ _)
      | (with_reducible exact LeO.refl _)
      | (with_reducible exact LeO.none _)
      | (with_reducible refine LeO.ite ?_ ?_)
      | (with_reducible refine LeO.bind ?_ (fun _ => ?_))
      | exact ih0 _ _ _ _
      | exact ih1 _ _ _ _ _ _ _
      | exact ih2 _ _ _ _ _ _ _ _ _
      | exact bastionlaw01_lives.mono _
      | exact pct_In.mono _ _ _
      | exact LeO.none _
      | refine LeO.ite ?_ ?_
      | refine LeO.bind ?_ (fun _ => ?_)
set_option maxHeartbeats 8000000 in
set_option maxRecDepth 100000 in
theorem bastionlaw01_PctWider.calls (k : Nat) (a0 : Int) (r : Bool) (w : World) (h : bastionlaw01_PctWider.f k a0 = some r) :
    Calls Try.prog 6 #[.int .u8 a0] w fun e w' => e = .returned (.bool r) ∧ Below w.heap.size w w' := by
  have HB := Aside0.mk (Below.refl w.heap.size w)
  have H : ((bastionlaw01_lives.f k).bind fun t231 => (if t231 = true then ((some (([(([1, 2] : List Int)), (([1, 3, 4] : List Int)), (([3, 5, 6, 7, 8] : List Int))] : List (List Int)) : List (List Int))).bind fun y241 => (bastionlaw01_PctWider.l0 k a0 y241 (y241.length : Int) 0)) else (some false))) = some r := h
  clear h
  replace H := Option.bind_eq_some_iff.mp H
  obtain ⟨t231, A20, H⟩ := H
  replace H : (if t231 = true then ((some (([(([1, 2] : List Int)), (([1, 3, 4] : List Int)), (([3, 5, 6, 7, 8] : List Int))] : List (List Int)) : List (List Int))).bind fun y241 => (bastionlaw01_PctWider.l0 k a0 y241 (y241.length : Int) 0)) else (some false)) = some r := H
  have A2 := Aside0.mk A20
  clear A20
  by_cases c3 : t231 = true
  · subst c3
    have H1 : ((some (([(([1, 2] : List Int)), (([1, 3, 4] : List Int)), (([3, 5, 6, 7, 8] : List Int))] : List (List Int)) : List (List Int))).bind fun y241 => (bastionlaw01_PctWider.l0 k a0 y241 (y241.length : Int) 0)) = some r := by rw [if_pos rfl] at H; exact H
    clear H
    have H := H1
    clear H1
    obtain ⟨y232, hy232⟩ : ∃ y_ : List Int, y_ = (([1, 2] : List Int)) := ⟨_, rfl⟩
    replace H : ((some (([y232, (([1, 3, 4] : List Int)), (([3, 5, 6, 7, 8] : List Int))] : List (List Int)) : List (List Int))).bind fun y241 => (bastionlaw01_PctWider.l0 k a0 y241 (y241.length : Int) 0)) = some r := by first | (rw [hy232]; with_reducible exact H) | (have H2_ := (Option.bind_some _ _).symm.trans H; rw [hy232]; with_reducible exact H2_) | (have H2_ := (Option.bind_some _ _).symm.trans H; with_reducible exact H2_) | with_reducible exact H | (rw [hy232]; exact H) | exact H
    have Ny232 := Aside0.mk hy232
    clear hy232
    obtain ⟨y235, hy235⟩ : ∃ y_ : List Int, y_ = (([1, 3, 4] : List Int)) := ⟨_, rfl⟩
    replace H : ((some (([y232, y235, (([3, 5, 6, 7, 8] : List Int))] : List (List Int)) : List (List Int))).bind fun y241 => (bastionlaw01_PctWider.l0 k a0 y241 (y241.length : Int) 0)) = some r := by first | (rw [hy235]; with_reducible exact H) | (have H2_ := (Option.bind_some _ _).symm.trans H; rw [hy235]; with_reducible exact H2_) | (have H2_ := (Option.bind_some _ _).symm.trans H; with_reducible exact H2_) | with_reducible exact H | (rw [hy235]; exact H) | exact H
    have Ny235 := Aside0.mk hy235
    clear hy235
    obtain ⟨y238, hy238⟩ : ∃ y_ : List Int, y_ = (([3, 5, 6, 7, 8] : List Int)) := ⟨_, rfl⟩
    replace H : ((some (([y232, y235, y238] : List (List Int)) : List (List Int))).bind fun y241 => (bastionlaw01_PctWider.l0 k a0 y241 (y241.length : Int) 0)) = some r := by first | (rw [hy238]; with_reducible exact H) | (have H2_ := (Option.bind_some _ _).symm.trans H; rw [hy238]; with_reducible exact H2_) | (have H2_ := (Option.bind_some _ _).symm.trans H; with_reducible exact H2_) | with_reducible exact H | (rw [hy238]; exact H) | exact H
    have Ny238 := Aside0.mk hy238
    clear hy238
    obtain ⟨y241, hy241⟩ : ∃ y_ : List (List Int), y_ = (([y232, y235, y238] : List (List Int))) := ⟨_, rfl⟩
    replace H : (bastionlaw01_PctWider.l0 k a0 y241 (y241.length : Int) 0) = some r := by first | (rw [hy241]; with_reducible exact H) | (have H2_ := (Option.bind_some _ _).symm.trans H; rw [hy241]; with_reducible exact H2_) | (have H2_ := (Option.bind_some _ _).symm.trans H; with_reducible exact H2_) | with_reducible exact H | (rw [hy241]; exact H) | exact H
    have Ny241 := Aside0.mk hy241
    clear hy241
    have H' := Aside0.mk H
    clear H
    go_enter Try.func6, Try.ntmps6
    go_wp2_with (first | ((with_reducible refine gate_callee (f := 13) rfl ?_); refine goesL_ (some 7) rfl rfl Try.func13 (by kernel_rfl) rfl #[] rfl (by (try simp only [List.map_toArray, List.map_cons, List.map_nil]); first | done | rfl | (simp only [List.length_drop, List.length_take]; rfl)) ?_; (with_reducible refine (bastionlaw01_lives.calls k  true _ A2.out).mono ?_); rintro e w4 ⟨rfl, hb⟩; refine ⟨_, rfl, ?_⟩; have n0_ := Aside0.mk (below_step (by repeat (first | (with_reducible first | exact HB.out | apply below_alloc | apply pw_below_drewN | apply below_drew1) | exact HB.out)) hb); clear HB; have HB := n0_; clear n0_; (try clear hb); (try clear hb2); (try clear hk); (try clear hi)) | ((with_reducible refine gate_dst (N := 9) rfl ?_); refine Kd.R_lit (Kd.int .u8) _ 22 ?hg (N := 9) ?hd (xs := ([1, 2] : List Int)) (inner := [.int .u8 1, .int .u8 2]) (ok := fun _ => True) (okp := fun _ => True) ?hr ?hp (fun _ hk => hk) trivial (Below.refl _ _) (Nat.le_refl _) (by simp) ?_; (case hd => rfl); (case hg => rfl); (case hr => first | (go_simp; done) | (go_simp; rfl)); (case hp => exact (Reps.one (show Kd.M (Kd.int .u8) _ _ _ 1 [.int .u8 1] from rfl) (Reps.one (show Kd.M (Kd.int .u8) _ _ _ 2 [.int .u8 2] from rfl) (Reps.none _ _)))); intro v233 w5 ho6 hb hg_ hnew_; clear hg_ hnew_; (first | rw [← Ny232.out] at ho6 | (simp only [Int.reduceToNat] at ho6; rw [← Ny232.out] at ho6)); have n0_ := Aside0.mk (Kd.R_lower ho6 (below_size (by repeat (first | (with_reducible first | exact HB.out | apply below_alloc | apply pw_below_drewN | apply below_drew1) | exact HB.out)))); have n1_ := Aside0.mk (below_step (by repeat (first | (with_reducible first | exact HB.out | apply below_alloc | apply pw_below_drewN | apply below_drew1) | exact HB.out)) hb); clear HB; have HO234 := n0_; have HB := n1_; clear n0_ n1_; clear hb ho6) | ((with_reducible refine gate_dst (N := 10) rfl ?_); refine Kd.R_lit (Kd.int .u8) _ 22 ?hg (N := 10) ?hd (xs := ([1, 3, 4] : List Int)) (inner := [.int .u8 1, .int .u8 3, .int .u8 4]) (ok := fun _ => True) (okp := fun _ => True) ?hr ?hp (fun _ hk => hk) trivial (Below.refl _ _) (Nat.le_refl _) (by simp) ?_; (case hd => rfl); (case hg => rfl); (case hr => first | (go_simp; done) | (go_simp; rfl)); (case hp => exact (Reps.one (show Kd.M (Kd.int .u8) _ _ _ 1 [.int .u8 1] from rfl) (Reps.one (show Kd.M (Kd.int .u8) _ _ _ 3 [.int .u8 3] from rfl) (Reps.one (show Kd.M (Kd.int .u8) _ _ _ 4 [.int .u8 4] from rfl) (Reps.none _ _))))); intro v236 w7 ho8 hb hg_ hnew_; clear hg_ hnew_; (first | rw [← Ny235.out] at ho8 | (simp only [Int.reduceToNat] at ho8; rw [← Ny235.out] at ho8)); have n0_ := Aside0.mk (Kd.R_elder' (by (with_reducible repeat (first | apply Kd.R_alloc | apply Kd.R_drewN | apply Kd.R_drew)); exact HO234.out) (Kd.R_base ho8) hb); have n1_ := Aside0.mk (Kd.R_lower (Kd.R_new' ho8 (Kd.R_lt (by (with_reducible repeat (first | apply Kd.R_alloc | apply Kd.R_drewN | apply Kd.R_drew)); exact HO234.out))) (below_size (by repeat (first | (with_reducible first | exact HB.out | apply below_alloc | apply pw_below_drewN | apply below_drew1) | exact HB.out)))); have n2_ := Aside0.mk (below_step (by repeat (first | (with_reducible first | exact HB.out | apply below_alloc | apply pw_below_drewN | apply below_drew1) | exact HB.out)) hb); clear HO234; clear HB; have HO234 := n0_; have HO237 := n1_; have HB := n2_; clear n0_ n1_ n2_; clear hb ho8) | ((with_reducible refine gate_dst (N := 11) rfl ?_); refine Kd.R_lit (Kd.int .u8) _ 22 ?hg (N := 11) ?hd (xs := ([3, 5, 6, 7, 8] : List Int)) (inner := [.int .u8 3, .int .u8 5, .int .u8 6, .int .u8 7, .int .u8 8]) (ok := fun _ => True) (okp := fun _ => True) ?hr ?hp (fun _ hk => hk) trivial (Below.refl _ _) (Nat.le_refl _) (by simp) ?_; (case hd => rfl); (case hg => rfl); (case hr => first | (go_simp; done) | (go_simp; rfl)); (case hp => exact (Reps.one (show Kd.M (Kd.int .u8) _ _ _ 3 [.int .u8 3] from rfl) (Reps.one (show Kd.M (Kd.int .u8) _ _ _ 5 [.int .u8 5] from rfl) (Reps.one (show Kd.M (Kd.int .u8) _ _ _ 6 [.int .u8 6] from rfl) (Reps.one (show Kd.M (Kd.int .u8) _ _ _ 7 [.int .u8 7] from rfl) (Reps.one (show Kd.M (Kd.int .u8) _ _ _ 8 [.int .u8 8] from rfl) (Reps.none _ _))))))); intro v239 w9 ho10 hb hg_ hnew_; clear hg_ hnew_; (first | rw [← Ny238.out] at ho10 | (simp only [Int.reduceToNat] at ho10; rw [← Ny238.out] at ho10)); have n0_ := Aside0.mk (Kd.R_elder' (by (with_reducible repeat (first | apply Kd.R_alloc | apply Kd.R_drewN | apply Kd.R_drew)); exact HO234.out) (Kd.R_base ho10) hb); have n1_ := Aside0.mk (Kd.R_elder' (by (with_reducible repeat (first | apply Kd.R_alloc | apply Kd.R_drewN | apply Kd.R_drew)); exact HO237.out) (Kd.R_base ho10) hb); have n2_ := Aside0.mk (Kd.R_lower (Kd.R_new' (Kd.R_new' ho10 (Kd.R_lt (by (with_reducible repeat (first | apply Kd.R_alloc | apply Kd.R_drewN | apply Kd.R_drew)); exact HO234.out))) (Kd.R_lt (by (with_reducible repeat (first | apply Kd.R_alloc | apply Kd.R_drewN | apply Kd.R_drew)); exact HO237.out))) (below_size (by repeat (first | (with_reducible first | exact HB.out | apply below_alloc | apply pw_below_drewN | apply below_drew1) | exact HB.out)))); have n3_ := Aside0.mk (below_step (by repeat (first | (with_reducible first | exact HB.out | apply below_alloc | apply pw_below_drewN | apply below_drew1) | exact HB.out)) hb); clear HO234; clear HO237; clear HB; have HO234 := n0_; have HO237 := n1_; have HO240 := n2_; have HB := n3_; clear n0_ n1_ n2_ n3_; clear hb ho10; obtain ⟨Ao11, co11, eo11⟩ := Kd.R_slice HO234.out; subst eo11; obtain ⟨Ao12, co12, eo12⟩ := Kd.R_slice HO237.out; subst eo12; obtain ⟨Ao13, co13, eo13⟩ := Kd.R_slice HO240.out; subst eo13) | ((with_reducible refine gate_dst (N := 12) rfl ?_); refine Kd.N_lit (Kd.slice 22 (Kd.int .u8)) _ 32 ?hg (N' := 12) ?hd (xs := ([y232, y235, y238] : List (List Int))) (inner := [.slice Ao11 y232.length co11, .slice Ao12 y235.length co12, .slice Ao13 y238.length co13]) (ok := (fun _ => True)) (okp := (fun _ => True)) ?hr ?hp (fun _ hk => hk) ((show ∀ k_, w9.heap.size ≤ k_ → (fun _ => True) k_ from fun k_ hk => trivial) _ (Nat.le_refl _)) (Below.refl _ _) (Nat.le_refl _) (by simp) ?_; (case hd => rfl); (case hg => rfl); (case hr => first | (go_simp; done) | (go_simp; rfl)); (case hp => exact (Reps.one (show Kd.FK (Kd.slice 22 (Kd.int .u8)) _ _ y232 [.slice Ao11 y232.length co11] from (Kd.FK_slice_mk (Kd.R_reads' (Kd.R_mono (ok' := (fun _ => True)) (HO234.out) (fun k_ hk => trivial))).2.1 (Kd.R_F (Kd.R_mono (ok' := (fun _ => True)) (HO234.out) (fun k_ hk => trivial))))) (Reps.one (show Kd.FK (Kd.slice 22 (Kd.int .u8)) _ _ y235 [.slice Ao12 y235.length co12] from (Kd.FK_slice_mk (Kd.R_reads' (Kd.R_mono (ok' := (fun _ => True)) (HO237.out) (fun k_ hk => trivial))).2.1 (Kd.R_F (Kd.R_mono (ok' := (fun _ => True)) (HO237.out) (fun k_ hk => trivial))))) (Reps.one (show Kd.FK (Kd.slice 22 (Kd.int .u8)) _ _ y238 [.slice Ao13 y238.length co13] from (Kd.FK_slice_mk (Kd.R_reads' (Kd.R_mono (ok' := (fun _ => True)) (HO240.out) (fun k_ hk => trivial))).2.1 (Kd.R_F (Kd.R_mono (ok' := (fun _ => True)) (HO240.out) (fun k_ hk => trivial))))) (Reps.none _ _))))); intro v242 w14 ho15 hb hg_ hnew_; clear hg_ hnew_; (first | rw [← Ny241.out] at ho15 | (simp only [Int.reduceToNat] at ho15; rw [← Ny241.out] at ho15)); have n0_ := Aside0.mk (Kd.N_lower ho15 (below_size (by repeat (first | (with_reducible first | exact HB.out | apply below_alloc | apply pw_below_drewN | apply below_drew1) | exact HB.out)))); have n1_ := Aside0.mk (below_step (by repeat (first | (with_reducible first | exact HB.out | apply below_alloc | apply pw_below_drewN | apply below_drew1) | exact HB.out)) hb); clear HB; clear HO234; clear HO237; clear HO240; have HO243 := n0_; have HB := n1_; clear n0_ n1_; clear hb ho15; obtain ⟨Ao16, co16, eo16⟩ := Kd.N_slice HO243.out; subst eo16))
    go_loopg [15] k (fun kq v15 w' => ∃ (x15_1 : Int), v15 = .int .i64 x15_1 ∧ Aside0 (bastionlaw01_PctWider.l0 kq a0 y241 (y241.length : Int) x15_1 = some r) ∧ Aside0 (kq ≤ k) ∧ Aside0 (Kd.N (Kd.slice 22 (Kd.int .u8)) 32 w' w.heap.size (fun _ => True) (.slice Ao16 y241.length co16) y241) ∧ Aside0 (Below w.heap.size w w'))
    case atStart => exact ⟨(0), (by first | rfl | (simp; done) | (simp [*]; done)), H', ⟨Nat.le_refl _⟩, ⟨by (with_reducible repeat (first | apply Kd.N_alloc | apply Kd.N_drewN | apply Kd.N_drew)); exact HO243.out⟩, ⟨by repeat (first | (with_reducible first | exact HB.out | apply below_alloc | apply pw_below_drewN | apply below_drew1) | exact HB.out)⟩⟩
    case round =>
      clear H'
      try clear c1
      try clear p2
      try clear c3
      try clear c6
      try clear c13
      obtain ⟨x15_1, rfl, HA, HK1, HO_13, HB⟩ := hrel
      cases gk with
      | zero => exact absurd HA.out (by simp [bastionlaw01_PctWider.l0])
      | succ k1 =>
        have H := HA.out
        clear HA
        simp only [bastionlaw01_PctWider.l0] at H
        by_cases c17 : x15_1 < (y241.length : Int)
        · rw [if_pos c17] at H
          have c17b0 : decide (x15_1 < (y241.length : Int)) = true := decide_eq_true c17
          clear c17
          by_cases c18 : 0 ≤ x15_1
          · rw [if_pos c18] at H
            have c18b0 : decide (0 ≤ x15_1) = true := decide_eq_true c18
            clear c18
            by_cases c19 : x15_1 < (y241.length : Int)
            · rw [if_pos c19] at H
              have c19b0 : decide (x15_1 < (y241.length : Int)) = true := decide_eq_true c19
              clear c19
              have H' := Aside0.mk H
              clear H
              have p244 : 0 ≤ (x15_1 : Int) := of_decide_eq_true (by first | (with_reducible assumption) | assumption)
              have q244 : x15_1 < (y241.length : Int) := of_decide_eq_true (by first | (with_reducible assumption) | assumption)
              obtain ⟨ad244, A244_0, c244_0, e244, hx244_0, hl244_0, hi244_0⟩ := at_L3 (Kd.N_reads' HO_13.out).2.2 x15_1 p244 q244
              cases e244
              obtain ⟨ce244, hce244, hMe244, hcc244⟩ := Kd.N_get HO_13.out [] x15_1 p244 (by first | exact q244 | exact of_decide_eq_true (by first | (with_reducible assumption) | assumption) | (have e_ := (Kd.N_reads' HO_13.out).1; omega))
              obtain ⟨ua244_0, uc244_0, rfl, ul244_0, ge244_0⟩ := Kd.FK_slice_open hMe244
              have hv244_0 := hcc244 0 _ rfl
              rw [Nat.add_zero, show ((Kd.slice 22 (Kd.int .u8))).sz = 1 from rfl, Nat.mul_one] at hv244_0
              replace hv244_0 := Option.some.inj (hv244_0.symm.trans hx244_0)
              injection hv244_0 with hva_ hvn_ hvc_
              rw [hva_] at ge244_0
              rw [hvc_] at ul244_0
              have HL244_0 := Aside0.mk (show Kd.V (Kd.int .u8) 22 _ w.heap.size _ _ (rd_L3 y241 x15_1) from Kd.V_mk ul244_0 ge244_0)
              clear hva_ hvn_ hvc_ ge244_0 ul244_0
              clear hcc244 hce244
              have HR244_0 := Aside0.mk hi244_0
              have HC244_0 := Aside0.mk hl244_0
              clear hi244_0 hl244_0
              replace p244 := eq_true p244
              replace q244 := eq_true q244
              go_wp2
              go_loopg [21] k1 (fun kq v21 w' => ∃ (x21_2 : Int), v21 = .int .i64 x21_2 ∧ Aside0 (bastionlaw01_PctWider.l1 kq a0 (rd_L3 y241 x15_1) y241 (y241.length : Int) x15_1 ((rd_L3 y241 x15_1).length : Int) x21_2 = some r) ∧ Aside0 (kq ≤ k1) ∧ Aside0 (Kd.N (Kd.slice 22 (Kd.int .u8)) 32 w' w.heap.size (fun _ => True) (.slice (some ad244) y241.length co16) y241) ∧ Aside0 (Kd.C (Kd.int .u8) w' A244_0 (rd_L3 y241 x15_1).length (rd_L3 y241 x15_1)) ∧ Aside0 (Below w.heap.size w w'))
              case atStart => exact ⟨(0), (by first | rfl | (simp; done) | (simp [*]; done)), H', ⟨Nat.le_refl _⟩, ⟨by (with_reducible repeat (first | apply Kd.N_alloc | apply Kd.N_drewN | apply Kd.N_drew)); exact HO_13.out⟩, ⟨by repeat (first | (with_reducible exact HR244_0.out) | (with_reducible refine Kd.C_alloc ?_ _) | (with_reducible refine Kd.C_drewN ?_ _) | (with_reducible refine Kd.C_drew ?_) | exact HR244_0.out)⟩, ⟨by repeat (first | (with_reducible first | exact HB.out | apply below_alloc | apply pw_below_drewN | apply below_drew1) | exact HB.out)⟩⟩
              case round =>
                clear H'
                try clear c1
                try clear c2
                try clear p2
                try clear q2
                try clear hx2
                try clear c3
                try clear c6
                try clear c13
                try clear c17
                try clear c17b0
                try clear c18
                try clear c18b0
                try clear c19
                try clear c19b0
                try clear hx244_0
                try clear p2
                try clear p244
                try clear q244
                obtain ⟨x21_2, rfl, HA, HK2, HO_13, HR244_0, HB⟩ := hrel
                cases gk with
                | zero => exact absurd HA.out (by simp [bastionlaw01_PctWider.l1])
                | succ k2 =>
                  have H := HA.out
                  clear HA
                  simp only [bastionlaw01_PctWider.l1] at H
                  by_cases c20 : x21_2 < ((rd_L3 y241 x15_1).length : Int)
                  · rw [if_pos c20] at H
                    have c20b0 : decide (x21_2 < ((rd_L3 y241 x15_1).length : Int)) = true := decide_eq_true c20
                    clear c20
                    have HC21 := Aside0.mk H
                    clear H
                    go_upto_region 10 with (fail)
                    go_cut [43] (fun v43 wc => ∃ (kq : Nat) (x43_20 : Bool), v43 = .bool x43_20 ∧ Aside0 (bastionlaw01_PctWider.j2 kq a0 (rd_L3 y241 x15_1) x21_2 y241 (y241.length : Int) x15_1 ((rd_L3 y241 x15_1).length : Int) x21_2 x43_20 = some r) ∧ Aside0 (kq ≤ k2) ∧ Aside0 (Kd.N (Kd.slice 22 (Kd.int .u8)) 32 wc w.heap.size (fun _ => True) (.slice (some ad244) y241.length co16) y241) ∧ Aside0 (Kd.C (Kd.int .u8) wc A244_0 (rd_L3 y241 x15_1).length (rd_L3 y241 x15_1)) ∧ Aside0 (Below w.heap.size w wc))
                    case first =>
                      have H := HC21.out
                      clear HC21
                      by_cases c22 : x21_2 > 0
                      · rw [if_pos c22] at H
                        have c22b0 : decide (0 < x21_2) = true := decide_eq_true c22
                        clear c22
                        (first | rw [c22b0] | (simp only [i64_w, i32_w]; rw [c22b0]) | skip)
                        obtain ⟨ji23, hji23⟩ : ∃ j_ : Int, (wrap64 (x21_2 - 1)) = j_ := ⟨_, rfl⟩
                        replace H : (if 0 ≤ (ji23) then (if (ji23) < ((rd_L3 y241 x15_1).length : Int) then ((pct_In.f k2 (rd (rd_L3 y241 x15_1) (ji23)) a0).bind fun t246 => (if t246 = true then (if 0 ≤ x21_2 then (if x21_2 < ((rd_L3 y241 x15_1).length : Int) then ((pct_In.f k2 (rd (rd_L3 y241 x15_1) x21_2) a0).bind fun t248 => (bastionlaw01_PctWider.j2 k2 a0 (rd_L3 y241 x15_1) x21_2 y241 (y241.length : Int) x15_1 ((rd_L3 y241 x15_1).length : Int) x21_2 (!t248))) else (none)) else (none)) else (bastionlaw01_PctWider.j2 k2 a0 (rd_L3 y241 x15_1) x21_2 y241 (y241.length : Int) x15_1 ((rd_L3 y241 x15_1).length : Int) x21_2 false))) else (none)) else (none)) = some r := by first | (rw [hji23] at H; exact H) | (simp only [hji23] at H ⊢; exact H)
                        have hji23w : (IntKind.i64.wrap (x21_2 - 1)) = ji23 := (i64_w _).trans hji23
                        by_cases c24 : 0 ≤ (ji23)
                        · rw [if_pos c24] at H
                          have c24b0 : decide (0 ≤ (ji23)) = true := decide_eq_true c24
                          clear c24
                          by_cases c25 : (ji23) < ((rd_L3 y241 x15_1).length : Int)
                          · rw [if_pos c25] at H
                            have c25b0 : decide ((ji23) < ((rd_L3 y241 x15_1).length : Int)) = true := decide_eq_true c25
                            clear c25
                            replace H := Option.bind_eq_some_iff.mp H
                            obtain ⟨t246, A260, H⟩ := H
                            replace H : (if t246 = true then (if 0 ≤ x21_2 then (if x21_2 < ((rd_L3 y241 x15_1).length : Int) then ((pct_In.f k2 (rd (rd_L3 y241 x15_1) x21_2) a0).bind fun t248 => (bastionlaw01_PctWider.j2 k2 a0 (rd_L3 y241 x15_1) x21_2 y241 (y241.length : Int) x15_1 ((rd_L3 y241 x15_1).length : Int) x21_2 (!t248))) else (none)) else (none)) else (bastionlaw01_PctWider.j2 k2 a0 (rd_L3 y241 x15_1) x21_2 y241 (y241.length : Int) x15_1 ((rd_L3 y241 x15_1).length : Int) x21_2 false)) = some r := H
                            have A26 := Aside0.mk A260
                            clear A260
                            by_cases c27 : t246 = true
                            · subst c27
                              have H1 : (if 0 ≤ x21_2 then (if x21_2 < ((rd_L3 y241 x15_1).length : Int) then ((pct_In.f k2 (rd (rd_L3 y241 x15_1) x21_2) a0).bind fun t248 => (bastionlaw01_PctWider.j2 k2 a0 (rd_L3 y241 x15_1) x21_2 y241 (y241.length : Int) x15_1 ((rd_L3 y241 x15_1).length : Int) x21_2 (!t248))) else (none)) else (none)) = some r := by rw [if_pos rfl] at H; exact H
                              clear H
                              have H := H1
                              clear H1
                              by_cases c28 : 0 ≤ x21_2
                              · rw [if_pos c28] at H
                                have c28b0 : decide (0 ≤ x21_2) = true := decide_eq_true c28
                                clear c28
                                by_cases c29 : x21_2 < ((rd_L3 y241 x15_1).length : Int)
                                · rw [if_pos c29] at H
                                  have c29b0 : decide (x21_2 < ((rd_L3 y241 x15_1).length : Int)) = true := decide_eq_true c29
                                  clear c29
                                  replace H := Option.bind_eq_some_iff.mp H
                                  obtain ⟨t248, A300, H⟩ := H
                                  replace H : (bastionlaw01_PctWider.j2 k2 a0 (rd_L3 y241 x15_1) x21_2 y241 (y241.length : Int) x15_1 ((rd_L3 y241 x15_1).length : Int) x21_2 (!t248)) = some r := H
                                  have A30 := Aside0.mk A300
                                  clear A300
                                  have H' := Aside0.mk H
                                  clear H
                                  have p245 : 0 ≤ ((ji23) : Int) := of_decide_eq_true (by first | (with_reducible assumption) | assumption)
                                  have q245 : (ji23) < ((rd_L3 y241 x15_1).length : Int) := of_decide_eq_true (by first | (with_reducible assumption) | assumption)
                                  obtain ⟨ad245, e245, hx245_0⟩ := Kd.at_int HR244_0.out (ji23) p245 q245
                                  cases e245
                                  (try replace hx245_0 := (HB.out.cell (World.block_lt_of_cell? w _ hx245_0)).trans hx245_0)
                                  replace p245 := eq_true p245
                                  replace q245 := eq_true q245
                                  go_wp2_with (first | (go_at_call 14; (with_reducible refine (pct_In.calls k2 (rd (rd_L3 y241 x15_1) (ji23)) a0 true _ A26.out).mono ?_); rintro e w31 ⟨rfl, hb⟩; have n0_ := Aside0.mk (Kd.N_below (by (with_reducible repeat (first | apply Kd.N_alloc | apply Kd.N_drewN | apply Kd.N_drew)); exact HO_13.out) hb); have n1_ := Aside0.mk (Kd.C_below (by repeat (first | (with_reducible exact HR244_0.out) | (with_reducible refine Kd.C_alloc ?_ _) | (with_reducible refine Kd.C_drewN ?_ _) | (with_reducible refine Kd.C_drew ?_) | exact HR244_0.out)) hb); have n2_ := Aside0.mk (below_step (by repeat (first | (with_reducible first | exact HB.out | apply below_alloc | apply pw_below_drewN | apply below_drew1) | exact HB.out)) hb); clear HO_13; clear HR244_0; clear HB; have HO_13 := n0_; have HR244_0 := n1_; have HB := n2_; clear n0_ n1_ n2_; (try clear hb); (try clear hb2); (try clear hk); (try clear hi); have p247 : 0 ≤ (x21_2 : Int) := of_decide_eq_true (by first | (with_reducible assumption) | assumption); have q247 : x21_2 < ((rd_L3 y241 x15_1).length : Int) := of_decide_eq_true (by first | (with_reducible assumption) | assumption); obtain ⟨ad247, e247, hx247_0⟩ := Kd.at_int HR244_0.out x21_2 p247 q247; obtain rfl : ad245 = ad247 := (by injection e247); (try replace hx247_0 := (HB.out.cell (World.block_lt_of_cell? w _ hx247_0)).trans hx247_0); replace p247 := eq_true p247; replace q247 := eq_true q247) | (go_at_call 14; (with_reducible refine (pct_In.calls k2 (rd (rd_L3 y241 x15_1) x21_2) a0 t248 _ A30.out).mono ?_); rintro e w32 ⟨rfl, hb⟩; have n0_ := Aside0.mk (Kd.N_below (by (with_reducible repeat (first | apply Kd.N_alloc | apply Kd.N_drewN | apply Kd.N_drew)); exact HO_13.out) hb); have n1_ := Aside0.mk (Kd.C_below (by repeat (first | (with_reducible exact HR244_0.out) | (with_reducible refine Kd.C_alloc ?_ _) | (with_reducible refine Kd.C_drewN ?_ _) | (with_reducible refine Kd.C_drew ?_) | exact HR244_0.out)) hb); have n2_ := Aside0.mk (below_step (by repeat (first | (with_reducible first | exact HB.out | apply below_alloc | apply pw_below_drewN | apply below_drew1) | exact HB.out)) hb); clear HO_13; clear HR244_0; clear HB; have HO_13 := n0_; have HR244_0 := n1_; have HB := n2_; clear n0_ n1_ n2_; (try clear hb); (try clear hb2); (try clear hk); (try clear hi)))
                                  go_meet
                                  case rel => exact ⟨_, (!t248), (by first | rfl | (simp; done) | (simp [*]; done)), H', ⟨by have := HK1.out; have := HK2.out; first | omega | exact Nat.le_refl _⟩, ⟨by (with_reducible repeat (first | apply Kd.N_alloc | apply Kd.N_drewN | apply Kd.N_drew)); exact HO_13.out⟩, ⟨by repeat (first | (with_reducible exact HR244_0.out) | (with_reducible refine Kd.C_alloc ?_ _) | (with_reducible refine Kd.C_drewN ?_ _) | (with_reducible refine Kd.C_drew ?_) | exact HR244_0.out)⟩, ⟨by repeat (first | (with_reducible first | exact HB.out | apply below_alloc | apply pw_below_drewN | apply below_drew1) | exact HB.out)⟩⟩
                                · exact absurd (by first | exact of_eq_true c20b0 | exact of_decide_eq_true c20b0 | exact beq_iff_eq.mp c20b0 | assumption) c29
                              · rw [if_neg c28] at H
                                exact absurd H (by simp)
                            · replace c27 := Bool.eq_false_iff.mpr c27
                              subst c27
                              have H1 : (bastionlaw01_PctWider.j2 k2 a0 (rd_L3 y241 x15_1) x21_2 y241 (y241.length : Int) x15_1 ((rd_L3 y241 x15_1).length : Int) x21_2 false) = some r := by rw [if_neg (show ¬ (false = true) by decide)] at H; exact H
                              clear H
                              have H := H1
                              clear H1
                              have H' := Aside0.mk H
                              clear H
                              have p245 : 0 ≤ ((ji23) : Int) := of_decide_eq_true (by first | (with_reducible assumption) | assumption)
                              have q245 : (ji23) < ((rd_L3 y241 x15_1).length : Int) := of_decide_eq_true (by first | (with_reducible assumption) | assumption)
                              obtain ⟨ad245, e245, hx245_0⟩ := Kd.at_int HR244_0.out (ji23) p245 q245
                              cases e245
                              (try replace hx245_0 := (HB.out.cell (World.block_lt_of_cell? w _ hx245_0)).trans hx245_0)
                              replace p245 := eq_true p245
                              replace q245 := eq_true q245
                              go_wp2_with (first | (go_at_call 14; (with_reducible refine (pct_In.calls k2 (rd (rd_L3 y241 x15_1) (ji23)) a0 false _ A26.out).mono ?_); rintro e w33 ⟨rfl, hb⟩; have n0_ := Aside0.mk (Kd.N_below (by (with_reducible repeat (first | apply Kd.N_alloc | apply Kd.N_drewN | apply Kd.N_drew)); exact HO_13.out) hb); have n1_ := Aside0.mk (Kd.C_below (by repeat (first | (with_reducible exact HR244_0.out) | (with_reducible refine Kd.C_alloc ?_ _) | (with_reducible refine Kd.C_drewN ?_ _) | (with_reducible refine Kd.C_drew ?_) | exact HR244_0.out)) hb); have n2_ := Aside0.mk (below_step (by repeat (first | (with_reducible first | exact HB.out | apply below_alloc | apply pw_below_drewN | apply below_drew1) | exact HB.out)) hb); clear HO_13; clear HR244_0; clear HB; have HO_13 := n0_; have HR244_0 := n1_; have HB := n2_; clear n0_ n1_ n2_; (try clear hb); (try clear hb2); (try clear hk); (try clear hi)))
                              go_meet
                              case rel => exact ⟨_, (false), (by first | rfl | (simp; done) | (simp [*]; done)), H', ⟨by have := HK1.out; have := HK2.out; first | omega | exact Nat.le_refl _⟩, ⟨by (with_reducible repeat (first | apply Kd.N_alloc | apply Kd.N_drewN | apply Kd.N_drew)); exact HO_13.out⟩, ⟨by repeat (first | (with_reducible exact HR244_0.out) | (with_reducible refine Kd.C_alloc ?_ _) | (with_reducible refine Kd.C_drewN ?_ _) | (with_reducible refine Kd.C_drew ?_) | exact HR244_0.out)⟩, ⟨by repeat (first | (with_reducible first | exact HB.out | apply below_alloc | apply pw_below_drewN | apply below_drew1) | exact HB.out)⟩⟩
                          · rw [if_neg c25] at H
                            exact absurd H (by simp)
                        · rw [if_neg c24] at H
                          exact absurd H (by simp)
                      · rw [if_neg c22] at H
                        have c22b0 : decide (0 < x21_2) = false := decide_eq_false c22
                        clear c22
                        (first | rw [c22b0] | (simp only [i64_w, i32_w]; rw [c22b0]) | skip)
                        have H' := Aside0.mk H
                        clear H
                        go_wp2
                        go_meet
                        case rel => exact ⟨_, (false), (by first | rfl | (simp; done) | (simp [*]; done)), H', ⟨by have := HK1.out; have := HK2.out; first | omega | exact Nat.le_refl _⟩, ⟨by (with_reducible repeat (first | apply Kd.N_alloc | apply Kd.N_drewN | apply Kd.N_drew)); exact HO_13.out⟩, ⟨by repeat (first | (with_reducible exact HR244_0.out) | (with_reducible refine Kd.C_alloc ?_ _) | (with_reducible refine Kd.C_drewN ?_ _) | (with_reducible refine Kd.C_drew ?_) | exact HR244_0.out)⟩, ⟨by repeat (first | (with_reducible first | exact HB.out | apply below_alloc | apply pw_below_drewN | apply below_drew1) | exact HB.out)⟩⟩
                    case rest =>
                      clear HC21
                      try clear c1
                      try clear c2
                      try clear p2
                      try clear q2
                      try clear hx2
                      try clear c3
                      try clear c6
                      try clear p6
                      try clear c13
                      try clear c17
                      try clear c17b0
                      try clear c18
                      try clear c18b0
                      try clear c19
                      try clear c19b0
                      try clear c20
                      try clear c20b0
                      try clear c22
                      try clear c22b0
                      try clear c24
                      try clear c24b0
                      try clear p24
                      try clear q24
                      try clear hx24
                      try clear c25
                      try clear c25b0
                      try clear c27
                      try clear c28
                      try clear c28b0
                      try clear c29
                      try clear c29b0
                      try clear hx244_0
                      try clear hx245_0
                      try clear hx247_0
                      try clear p2
                      try clear p244
                      try clear p245
                      try clear p247
                      try clear q2
                      try clear q244
                      try clear q245
                      try clear q247
                      obtain ⟨kq, x43_20, rfl, HA, HJ20, HO_13, HR244_0, HB⟩ := hcut
                      cases kq with
                      | zero => exact absurd HA.out (by simp [bastionlaw01_PctWider.j2])
                      | succ kj20 =>
                        have H := HA.out
                        clear HA
                        simp only [bastionlaw01_PctWider.j2] at H
                        by_cases c34 : x43_20 = true
                        · subst c34
                          have H1 : (some false) = some r := by rw [if_pos rfl] at H; exact H
                          clear H
                          have H := H1
                          clear H1
                          obtain rfl := Option.some.inj H
                          go_wp2
                          go_ret
                          exact ⟨by first | rfl | (simp [errW_none, errW_some] <;> rfl) | (simp [*, errW_none, errW_some] <;> rfl), by repeat (first | (with_reducible first | exact HB.out | apply below_alloc | apply pw_below_drewN | apply below_drew1) | exact HB.out)⟩
                        · replace c34 := Bool.eq_false_iff.mpr c34
                          subst c34
                          have H1 : (if 0 ≤ x21_2 then (if x21_2 < ((rd_L3 y241 x15_1).length : Int) then ((pct_In.f kj20 (rd (rd_L3 y241 x15_1) x21_2) a0).bind fun t250 => (if t250 = true then (if a0 ≥ 97 then (if a0 ≤ 122 then (some false) else (if a0 ≥ 65 then (if a0 ≤ 90 then (some false) else (if a0 ≥ 48 then (if a0 ≤ 57 then (some false) else (bastionlaw01_PctWider.l1 kj20 a0 (rd_L3 y241 x15_1) y241 (y241.length : Int) x15_1 ((rd_L3 y241 x15_1).length : Int) (wrap64 (x21_2 + 1)))) else (bastionlaw01_PctWider.l1 kj20 a0 (rd_L3 y241 x15_1) y241 (y241.length : Int) x15_1 ((rd_L3 y241 x15_1).length : Int) (wrap64 (x21_2 + 1))))) else (if a0 ≥ 48 then (if a0 ≤ 57 then (some false) else (bastionlaw01_PctWider.l1 kj20 a0 (rd_L3 y241 x15_1) y241 (y241.length : Int) x15_1 ((rd_L3 y241 x15_1).length : Int) (wrap64 (x21_2 + 1)))) else (bastionlaw01_PctWider.l1 kj20 a0 (rd_L3 y241 x15_1) y241 (y241.length : Int) x15_1 ((rd_L3 y241 x15_1).length : Int) (wrap64 (x21_2 + 1)))))) else (if a0 ≥ 65 then (if a0 ≤ 90 then (some false) else (if a0 ≥ 48 then (if a0 ≤ 57 then (some false) else (bastionlaw01_PctWider.l1 kj20 a0 (rd_L3 y241 x15_1) y241 (y241.length : Int) x15_1 ((rd_L3 y241 x15_1).length : Int) (wrap64 (x21_2 + 1)))) else (bastionlaw01_PctWider.l1 kj20 a0 (rd_L3 y241 x15_1) y241 (y241.length : Int) x15_1 ((rd_L3 y241 x15_1).length : Int) (wrap64 (x21_2 + 1))))) else (if a0 ≥ 48 then (if a0 ≤ 57 then (some false) else (bastionlaw01_PctWider.l1 kj20 a0 (rd_L3 y241 x15_1) y241 (y241.length : Int) x15_1 ((rd_L3 y241 x15_1).length : Int) (wrap64 (x21_2 + 1)))) else (bastionlaw01_PctWider.l1 kj20 a0 (rd_L3 y241 x15_1) y241 (y241.length : Int) x15_1 ((rd_L3 y241 x15_1).length : Int) (wrap64 (x21_2 + 1)))))) else (bastionlaw01_PctWider.l1 kj20 a0 (rd_L3 y241 x15_1) y241 (y241.length : Int) x15_1 ((rd_L3 y241 x15_1).length : Int) (wrap64 (x21_2 + 1))))) else (none)) else (none)) = some r := by rw [if_neg (show ¬ (false = true) by decide)] at H; exact H
                          clear H
                          have H := H1
                          clear H1
                          by_cases c35 : 0 ≤ x21_2
                          · rw [if_pos c35] at H
                            have c35b0 : decide (0 ≤ x21_2) = true := decide_eq_true c35
                            clear c35
                            by_cases c36 : x21_2 < ((rd_L3 y241 x15_1).length : Int)
                            · rw [if_pos c36] at H
                              have c36b0 : decide (x21_2 < ((rd_L3 y241 x15_1).length : Int)) = true := decide_eq_true c36
                              clear c36
                              replace H := Option.bind_eq_some_iff.mp H
                              obtain ⟨t250, A370, H⟩ := H
                              replace H : (if t250 = true then (if a0 ≥ 97 then (if a0 ≤ 122 then (some false) else (if a0 ≥ 65 then (if a0 ≤ 90 then (some false) else (if a0 ≥ 48 then (if a0 ≤ 57 then (some false) else (bastionlaw01_PctWider.l1 kj20 a0 (rd_L3 y241 x15_1) y241 (y241.length : Int) x15_1 ((rd_L3 y241 x15_1).length : Int) (wrap64 (x21_2 + 1)))) else (bastionlaw01_PctWider.l1 kj20 a0 (rd_L3 y241 x15_1) y241 (y241.length : Int) x15_1 ((rd_L3 y241 x15_1).length : Int) (wrap64 (x21_2 + 1))))) else (if a0 ≥ 48 then (if a0 ≤ 57 then (some false) else (bastionlaw01_PctWider.l1 kj20 a0 (rd_L3 y241 x15_1) y241 (y241.length : Int) x15_1 ((rd_L3 y241 x15_1).length : Int) (wrap64 (x21_2 + 1)))) else (bastionlaw01_PctWider.l1 kj20 a0 (rd_L3 y241 x15_1) y241 (y241.length : Int) x15_1 ((rd_L3 y241 x15_1).length : Int) (wrap64 (x21_2 + 1)))))) else (if a0 ≥ 65 then (if a0 ≤ 90 then (some false) else (if a0 ≥ 48 then (if a0 ≤ 57 then (some false) else (bastionlaw01_PctWider.l1 kj20 a0 (rd_L3 y241 x15_1) y241 (y241.length : Int) x15_1 ((rd_L3 y241 x15_1).length : Int) (wrap64 (x21_2 + 1)))) else (bastionlaw01_PctWider.l1 kj20 a0 (rd_L3 y241 x15_1) y241 (y241.length : Int) x15_1 ((rd_L3 y241 x15_1).length : Int) (wrap64 (x21_2 + 1))))) else (if a0 ≥ 48 then (if a0 ≤ 57 then (some false) else (bastionlaw01_PctWider.l1 kj20 a0 (rd_L3 y241 x15_1) y241 (y241.length : Int) x15_1 ((rd_L3 y241 x15_1).length : Int) (wrap64 (x21_2 + 1)))) else (bastionlaw01_PctWider.l1 kj20 a0 (rd_L3 y241 x15_1) y241 (y241.length : Int) x15_1 ((rd_L3 y241 x15_1).length : Int) (wrap64 (x21_2 + 1)))))) else (bastionlaw01_PctWider.l1 kj20 a0 (rd_L3 y241 x15_1) y241 (y241.length : Int) x15_1 ((rd_L3 y241 x15_1).length : Int) (wrap64 (x21_2 + 1)))) = some r := H
                              have A37 := Aside0.mk A370
                              clear A370
                              by_cases c38 : t250 = true
                              · subst c38
                                have H1 : (if a0 ≥ 97 then (if a0 ≤ 122 then (some false) else (if a0 ≥ 65 then (if a0 ≤ 90 then (some false) else (if a0 ≥ 48 then (if a0 ≤ 57 then (some false) else (bastionlaw01_PctWider.l1 kj20 a0 (rd_L3 y241 x15_1) y241 (y241.length : Int) x15_1 ((rd_L3 y241 x15_1).length : Int) (wrap64 (x21_2 + 1)))) else (bastionlaw01_PctWider.l1 kj20 a0 (rd_L3 y241 x15_1) y241 (y241.length : Int) x15_1 ((rd_L3 y241 x15_1).length : Int) (wrap64 (x21_2 + 1))))) else (if a0 ≥ 48 then (if a0 ≤ 57 then (some false) else (bastionlaw01_PctWider.l1 kj20 a0 (rd_L3 y241 x15_1) y241 (y241.length : Int) x15_1 ((rd_L3 y241 x15_1).length : Int) (wrap64 (x21_2 + 1)))) else (bastionlaw01_PctWider.l1 kj20 a0 (rd_L3 y241 x15_1) y241 (y241.length : Int) x15_1 ((rd_L3 y241 x15_1).length : Int) (wrap64 (x21_2 + 1)))))) else (if a0 ≥ 65 then (if a0 ≤ 90 then (some false) else (if a0 ≥ 48 then (if a0 ≤ 57 then (some false) else (bastionlaw01_PctWider.l1 kj20 a0 (rd_L3 y241 x15_1) y241 (y241.length : Int) x15_1 ((rd_L3 y241 x15_1).length : Int) (wrap64 (x21_2 + 1)))) else (bastionlaw01_PctWider.l1 kj20 a0 (rd_L3 y241 x15_1) y241 (y241.length : Int) x15_1 ((rd_L3 y241 x15_1).length : Int) (wrap64 (x21_2 + 1))))) else (if a0 ≥ 48 then (if a0 ≤ 57 then (some false) else (bastionlaw01_PctWider.l1 kj20 a0 (rd_L3 y241 x15_1) y241 (y241.length : Int) x15_1 ((rd_L3 y241 x15_1).length : Int) (wrap64 (x21_2 + 1)))) else (bastionlaw01_PctWider.l1 kj20 a0 (rd_L3 y241 x15_1) y241 (y241.length : Int) x15_1 ((rd_L3 y241 x15_1).length : Int) (wrap64 (x21_2 + 1)))))) = some r := by rw [if_pos rfl] at H; exact H
                                clear H
                                have H := H1
                                clear H1
                                by_cases c39 : a0 ≥ 97
                                · rw [if_pos c39] at H
                                  have c39b0 : decide (97 ≤ a0) = true := decide_eq_true c39
                                  clear c39
                                  by_cases c40 : a0 ≤ 122
                                  · rw [if_pos c40] at H
                                    have c40b0 : decide (a0 ≤ 122) = true := decide_eq_true c40
                                    clear c40
                                    obtain rfl := Option.some.inj H
                                    have p249 : 0 ≤ (x21_2 : Int) := of_decide_eq_true (by first | (with_reducible assumption) | assumption)
                                    have q249 : x21_2 < ((rd_L3 y241 x15_1).length : Int) := of_decide_eq_true (by first | (with_reducible assumption) | assumption)
                                    obtain ⟨ad249, e249, hx249_0⟩ := Kd.at_int HR244_0.out x21_2 p249 q249
                                    cases e249
                                    (try replace hx249_0 := (HB.out.cell (World.block_lt_of_cell? w _ hx249_0)).trans hx249_0)
                                    replace p249 := eq_true p249
                                    replace q249 := eq_true q249
                                    go_wp2_with (first | ((with_reducible refine gate_callee (f := 14) rfl ?_); refine goesL_ (some 49) rfl rfl Try.func14 (by kernel_rfl) rfl #[.int .u8 (rd (rd_L3 y241 x15_1) x21_2), .int .u8 a0] rfl (by (try simp only [List.map_toArray, List.map_cons, List.map_nil]); first | done | rfl | (simp only [List.length_drop, List.length_take]; rfl)) ?_; (with_reducible refine (pct_In.calls kj20 (rd (rd_L3 y241 x15_1) x21_2) a0 true _ A37.out).mono ?_); rintro e w41 ⟨rfl, hb⟩; refine ⟨_, rfl, ?_⟩; have n0_ := Aside0.mk (Kd.N_below (by (with_reducible repeat (first | apply Kd.N_alloc | apply Kd.N_drewN | apply Kd.N_drew)); exact HO_13.out) hb); have n1_ := Aside0.mk (Kd.C_below (by repeat (first | (with_reducible exact HR244_0.out) | (with_reducible refine Kd.C_alloc ?_ _) | (with_reducible refine Kd.C_drewN ?_ _) | (with_reducible refine Kd.C_drew ?_) | exact HR244_0.out)) hb); have n2_ := Aside0.mk (below_step (by repeat (first | (with_reducible first | exact HB.out | apply below_alloc | apply pw_below_drewN | apply below_drew1) | exact HB.out)) hb); clear HO_13; clear HR244_0; clear HB; have HO_13 := n0_; have HR244_0 := n1_; have HB := n2_; clear n0_ n1_ n2_; (try clear hb); (try clear hb2); (try clear hk); (try clear hi)))
                                    go_ret
                                    exact ⟨by first | rfl | (simp [errW_none, errW_some] <;> rfl) | (simp [*, errW_none, errW_some] <;> rfl), by repeat (first | (with_reducible first | exact HB.out | apply below_alloc | apply pw_below_drewN | apply below_drew1) | exact HB.out)⟩
                                  · rw [if_neg c40] at H
                                    have c40b0 : decide (a0 ≤ 122) = false := decide_eq_false c40
                                    clear c40
                                    by_cases c42 : a0 ≥ 65
                                    · rw [if_pos c42] at H
                                      have c42b0 : decide (65 ≤ a0) = true := decide_eq_true c42
                                      clear c42
                                      by_cases c43 : a0 ≤ 90
                                      · exfalso; have h_c39 := of_decide_eq_true c39b0; have h_c40 := of_decide_eq_false c40b0; have h_c42 := of_decide_eq_true c42b0; omega
                                      · rw [if_neg c43] at H
                                        have c43b0 : decide (a0 ≤ 90) = false := decide_eq_false c43
                                        clear c43
                                        by_cases c45 : a0 ≥ 48
                                        · rw [if_pos c45] at H
                                          have c45b0 : decide (48 ≤ a0) = true := decide_eq_true c45
                                          clear c45
                                          by_cases c46 : a0 ≤ 57
                                          · exfalso; have h_c39 := of_decide_eq_true c39b0; have h_c40 := of_decide_eq_false c40b0; have h_c42 := of_decide_eq_true c42b0; have h_c43 := of_decide_eq_false c43b0; have h_c45 := of_decide_eq_true c45b0; omega
                                          · rw [if_neg c46] at H
                                            have c46b0 : decide (a0 ≤ 57) = false := decide_eq_false c46
                                            clear c46
                                            have H' := Aside0.mk H
                                            clear H
                                            have p249 : 0 ≤ (x21_2 : Int) := of_decide_eq_true (by first | (with_reducible assumption) | assumption)
                                            have q249 : x21_2 < ((rd_L3 y241 x15_1).length : Int) := of_decide_eq_true (by first | (with_reducible assumption) | assumption)
                                            obtain ⟨ad249, e249, hx249_0⟩ := Kd.at_int HR244_0.out x21_2 p249 q249
                                            cases e249
                                            (try replace hx249_0 := (HB.out.cell (World.block_lt_of_cell? w _ hx249_0)).trans hx249_0)
                                            replace p249 := eq_true p249
                                            replace q249 := eq_true q249
                                            go_wp2_with (first | ((with_reducible refine gate_callee (f := 14) rfl ?_); refine goesL_ (some 49) rfl rfl Try.func14 (by kernel_rfl) rfl #[.int .u8 (rd (rd_L3 y241 x15_1) x21_2), .int .u8 a0] rfl (by (try simp only [List.map_toArray, List.map_cons, List.map_nil]); first | done | rfl | (simp only [List.length_drop, List.length_take]; rfl)) ?_; (with_reducible refine (pct_In.calls kj20 (rd (rd_L3 y241 x15_1) x21_2) a0 true _ A37.out).mono ?_); rintro e w48 ⟨rfl, hb⟩; refine ⟨_, rfl, ?_⟩; have n0_ := Aside0.mk (Kd.N_below (by (with_reducible repeat (first | apply Kd.N_alloc | apply Kd.N_drewN | apply Kd.N_drew)); exact HO_13.out) hb); have n1_ := Aside0.mk (Kd.C_below (by repeat (first | (with_reducible exact HR244_0.out) | (with_reducible refine Kd.C_alloc ?_ _) | (with_reducible refine Kd.C_drewN ?_ _) | (with_reducible refine Kd.C_drew ?_) | exact HR244_0.out)) hb); have n2_ := Aside0.mk (below_step (by repeat (first | (with_reducible first | exact HB.out | apply below_alloc | apply pw_below_drewN | apply below_drew1) | exact HB.out)) hb); clear HO_13; clear HR244_0; clear HB; have HO_13 := n0_; have HR244_0 := n1_; have HB := n2_; clear n0_ n1_ n2_; (try clear hb); (try clear hb2); (try clear hk); (try clear hi)))
                                            go_roundg kj20
                                            case measure => have := HK1.out; have := HK2.out; have := HJ20.out; omega
                                            case rel => exact ⟨(wrap64 (x21_2 + 1)), (by first | rfl | (simp; done) | (simp [*]; done)), H', ⟨by have := HK1.out; have := HK2.out; have := HJ20.out; omega⟩, ⟨by (with_reducible repeat (first | apply Kd.N_alloc | apply Kd.N_drewN | apply Kd.N_drew)); exact HO_13.out⟩, ⟨by repeat (first | (with_reducible exact HR244_0.out) | (with_reducible refine Kd.C_alloc ?_ _) | (with_reducible refine Kd.C_drewN ?_ _) | (with_reducible refine Kd.C_drew ?_) | exact HR244_0.out)⟩, ⟨by repeat (first | (with_reducible first | exact HB.out | apply below_alloc | apply pw_below_drewN | apply below_drew1) | exact HB.out)⟩⟩
                                        · exfalso; have h_c39 := of_decide_eq_true c39b0; have h_c40 := of_decide_eq_false c40b0; have h_c42 := of_decide_eq_true c42b0; have h_c43 := of_decide_eq_false c43b0; omega
                                    · exfalso; have h_c39 := of_decide_eq_true c39b0; have h_c40 := of_decide_eq_false c40b0; omega
                                · rw [if_neg c39] at H
                                  have c39b0 : decide (97 ≤ a0) = false := decide_eq_false c39
                                  clear c39
                                  by_cases c55 : a0 ≥ 65
                                  · rw [if_pos c55] at H
                                    have c55b0 : decide (65 ≤ a0) = true := decide_eq_true c55
                                    clear c55
                                    by_cases c56 : a0 ≤ 90
                                    · rw [if_pos c56] at H
                                      have c56b0 : decide (a0 ≤ 90) = true := decide_eq_true c56
                                      clear c56
                                      obtain rfl := Option.some.inj H
                                      have p249 : 0 ≤ (x21_2 : Int) := of_decide_eq_true (by first | (with_reducible assumption) | assumption)
                                      have q249 : x21_2 < ((rd_L3 y241 x15_1).length : Int) := of_decide_eq_true (by first | (with_reducible assumption) | assumption)
                                      obtain ⟨ad249, e249, hx249_0⟩ := Kd.at_int HR244_0.out x21_2 p249 q249
                                      cases e249
                                      (try replace hx249_0 := (HB.out.cell (World.block_lt_of_cell? w _ hx249_0)).trans hx249_0)
                                      replace p249 := eq_true p249
                                      replace q249 := eq_true q249
                                      go_wp2_with (first | ((with_reducible refine gate_callee (f := 14) rfl ?_); refine goesL_ (some 49) rfl rfl Try.func14 (by kernel_rfl) rfl #[.int .u8 (rd (rd_L3 y241 x15_1) x21_2), .int .u8 a0] rfl (by (try simp only [List.map_toArray, List.map_cons, List.map_nil]); first | done | rfl | (simp only [List.length_drop, List.length_take]; rfl)) ?_; (with_reducible refine (pct_In.calls kj20 (rd (rd_L3 y241 x15_1) x21_2) a0 true _ A37.out).mono ?_); rintro e w57 ⟨rfl, hb⟩; refine ⟨_, rfl, ?_⟩; have n0_ := Aside0.mk (Kd.N_below (by (with_reducible repeat (first | apply Kd.N_alloc | apply Kd.N_drewN | apply Kd.N_drew)); exact HO_13.out) hb); have n1_ := Aside0.mk (Kd.C_below (by repeat (first | (with_reducible exact HR244_0.out) | (with_reducible refine Kd.C_alloc ?_ _) | (with_reducible refine Kd.C_drewN ?_ _) | (with_reducible refine Kd.C_drew ?_) | exact HR244_0.out)) hb); have n2_ := Aside0.mk (below_step (by repeat (first | (with_reducible first | exact HB.out | apply below_alloc | apply pw_below_drewN | apply below_drew1) | exact HB.out)) hb); clear HO_13; clear HR244_0; clear HB; have HO_13 := n0_; have HR244_0 := n1_; have HB := n2_; clear n0_ n1_ n2_; (try clear hb); (try clear hb2); (try clear hk); (try clear hi)))
                                      go_ret
                                      exact ⟨by first | rfl | (simp [errW_none, errW_some] <;> rfl) | (simp [*, errW_none, errW_some] <;> rfl), by repeat (first | (with_reducible first | exact HB.out | apply below_alloc | apply pw_below_drewN | apply below_drew1) | exact HB.out)⟩
                                    · rw [if_neg c56] at H
                                      have c56b0 : decide (a0 ≤ 90) = false := decide_eq_false c56
                                      clear c56
                                      by_cases c58 : a0 ≥ 48
                                      · rw [if_pos c58] at H
                                        have c58b0 : decide (48 ≤ a0) = true := decide_eq_true c58
                                        clear c58
                                        by_cases c59 : a0 ≤ 57
                                        · exfalso; have h_c39 := of_decide_eq_false c39b0; have h_c55 := of_decide_eq_true c55b0; have h_c56 := of_decide_eq_false c56b0; have h_c58 := of_decide_eq_true c58b0; omega
                                        · rw [if_neg c59] at H
                                          have c59b0 : decide (a0 ≤ 57) = false := decide_eq_false c59
                                          clear c59
                                          have H' := Aside0.mk H
                                          clear H
                                          have p249 : 0 ≤ (x21_2 : Int) := of_decide_eq_true (by first | (with_reducible assumption) | assumption)
                                          have q249 : x21_2 < ((rd_L3 y241 x15_1).length : Int) := of_decide_eq_true (by first | (with_reducible assumption) | assumption)
                                          obtain ⟨ad249, e249, hx249_0⟩ := Kd.at_int HR244_0.out x21_2 p249 q249
                                          cases e249
                                          (try replace hx249_0 := (HB.out.cell (World.block_lt_of_cell? w _ hx249_0)).trans hx249_0)
                                          replace p249 := eq_true p249
                                          replace q249 := eq_true q249
                                          go_wp2_with (first | ((with_reducible refine gate_callee (f := 14) rfl ?_); refine goesL_ (some 49) rfl rfl Try.func14 (by kernel_rfl) rfl #[.int .u8 (rd (rd_L3 y241 x15_1) x21_2), .int .u8 a0] rfl (by (try simp only [List.map_toArray, List.map_cons, List.map_nil]); first | done | rfl | (simp only [List.length_drop, List.length_take]; rfl)) ?_; (with_reducible refine (pct_In.calls kj20 (rd (rd_L3 y241 x15_1) x21_2) a0 true _ A37.out).mono ?_); rintro e w61 ⟨rfl, hb⟩; refine ⟨_, rfl, ?_⟩; have n0_ := Aside0.mk (Kd.N_below (by (with_reducible repeat (first | apply Kd.N_alloc | apply Kd.N_drewN | apply Kd.N_drew)); exact HO_13.out) hb); have n1_ := Aside0.mk (Kd.C_below (by repeat (first | (with_reducible exact HR244_0.out) | (with_reducible refine Kd.C_alloc ?_ _) | (with_reducible refine Kd.C_drewN ?_ _) | (with_reducible refine Kd.C_drew ?_) | exact HR244_0.out)) hb); have n2_ := Aside0.mk (below_step (by repeat (first | (with_reducible first | exact HB.out | apply below_alloc | apply pw_below_drewN | apply below_drew1) | exact HB.out)) hb); clear HO_13; clear HR244_0; clear HB; have HO_13 := n0_; have HR244_0 := n1_; have HB := n2_; clear n0_ n1_ n2_; (try clear hb); (try clear hb2); (try clear hk); (try clear hi)))
                                          go_roundg kj20
                                          case measure => have := HK1.out; have := HK2.out; have := HJ20.out; omega
                                          case rel => exact ⟨(wrap64 (x21_2 + 1)), (by first | rfl | (simp; done) | (simp [*]; done)), H', ⟨by have := HK1.out; have := HK2.out; have := HJ20.out; omega⟩, ⟨by (with_reducible repeat (first | apply Kd.N_alloc | apply Kd.N_drewN | apply Kd.N_drew)); exact HO_13.out⟩, ⟨by repeat (first | (with_reducible exact HR244_0.out) | (with_reducible refine Kd.C_alloc ?_ _) | (with_reducible refine Kd.C_drewN ?_ _) | (with_reducible refine Kd.C_drew ?_) | exact HR244_0.out)⟩, ⟨by repeat (first | (with_reducible first | exact HB.out | apply below_alloc | apply pw_below_drewN | apply below_drew1) | exact HB.out)⟩⟩
                                      · exfalso; have h_c39 := of_decide_eq_false c39b0; have h_c55 := of_decide_eq_true c55b0; have h_c56 := of_decide_eq_false c56b0; omega
                                  · rw [if_neg c55] at H
                                    have c55b0 : decide (65 ≤ a0) = false := decide_eq_false c55
                                    clear c55
                                    by_cases c63 : a0 ≥ 48
                                    · rw [if_pos c63] at H
                                      have c63b0 : decide (48 ≤ a0) = true := decide_eq_true c63
                                      clear c63
                                      by_cases c64 : a0 ≤ 57
                                      · rw [if_pos c64] at H
                                        have c64b0 : decide (a0 ≤ 57) = true := decide_eq_true c64
                                        clear c64
                                        obtain rfl := Option.some.inj H
                                        have p249 : 0 ≤ (x21_2 : Int) := of_decide_eq_true (by first | (with_reducible assumption) | assumption)
                                        have q249 : x21_2 < ((rd_L3 y241 x15_1).length : Int) := of_decide_eq_true (by first | (with_reducible assumption) | assumption)
                                        obtain ⟨ad249, e249, hx249_0⟩ := Kd.at_int HR244_0.out x21_2 p249 q249
                                        cases e249
                                        (try replace hx249_0 := (HB.out.cell (World.block_lt_of_cell? w _ hx249_0)).trans hx249_0)
                                        replace p249 := eq_true p249
                                        replace q249 := eq_true q249
                                        go_wp2_with (first | ((with_reducible refine gate_callee (f := 14) rfl ?_); refine goesL_ (some 49) rfl rfl Try.func14 (by kernel_rfl) rfl #[.int .u8 (rd (rd_L3 y241 x15_1) x21_2), .int .u8 a0] rfl (by (try simp only [List.map_toArray, List.map_cons, List.map_nil]); first | done | rfl | (simp only [List.length_drop, List.length_take]; rfl)) ?_; (with_reducible refine (pct_In.calls kj20 (rd (rd_L3 y241 x15_1) x21_2) a0 true _ A37.out).mono ?_); rintro e w65 ⟨rfl, hb⟩; refine ⟨_, rfl, ?_⟩; have n0_ := Aside0.mk (Kd.N_below (by (with_reducible repeat (first | apply Kd.N_alloc | apply Kd.N_drewN | apply Kd.N_drew)); exact HO_13.out) hb); have n1_ := Aside0.mk (Kd.C_below (by repeat (first | (with_reducible exact HR244_0.out) | (with_reducible refine Kd.C_alloc ?_ _) | (with_reducible refine Kd.C_drewN ?_ _) | (with_reducible refine Kd.C_drew ?_) | exact HR244_0.out)) hb); have n2_ := Aside0.mk (below_step (by repeat (first | (with_reducible first | exact HB.out | apply below_alloc | apply pw_below_drewN | apply below_drew1) | exact HB.out)) hb); clear HO_13; clear HR244_0; clear HB; have HO_13 := n0_; have HR244_0 := n1_; have HB := n2_; clear n0_ n1_ n2_; (try clear hb); (try clear hb2); (try clear hk); (try clear hi)))
                                        go_ret
                                        exact ⟨by first | rfl | (simp [errW_none, errW_some] <;> rfl) | (simp [*, errW_none, errW_some] <;> rfl), by repeat (first | (with_reducible first | exact HB.out | apply below_alloc | apply pw_below_drewN | apply below_drew1) | exact HB.out)⟩
                                      · rw [if_neg c64] at H
                                        have c64b0 : decide (a0 ≤ 57) = false := decide_eq_false c64
                                        clear c64
                                        have H' := Aside0.mk H
                                        clear H
                                        have p249 : 0 ≤ (x21_2 : Int) := of_decide_eq_true (by first | (with_reducible assumption) | assumption)
                                        have q249 : x21_2 < ((rd_L3 y241 x15_1).length : Int) := of_decide_eq_true (by first | (with_reducible assumption) | assumption)
                                        obtain ⟨ad249, e249, hx249_0⟩ := Kd.at_int HR244_0.out x21_2 p249 q249
                                        cases e249
                                        (try replace hx249_0 := (HB.out.cell (World.block_lt_of_cell? w _ hx249_0)).trans hx249_0)
                                        replace p249 := eq_true p249
                                        replace q249 := eq_true q249
                                        go_wp2_with (first | ((with_reducible refine gate_callee (f := 14) rfl ?_); refine goesL_ (some 49) rfl rfl Try.func14 (by kernel_rfl) rfl #[.int .u8 (rd (rd_L3 y241 x15_1) x21_2), .int .u8 a0] rfl (by (try simp only [List.map_toArray, List.map_cons, List.map_nil]); first | done | rfl | (simp only [List.length_drop, List.length_take]; rfl)) ?_; (with_reducible refine (pct_In.calls kj20 (rd (rd_L3 y241 x15_1) x21_2) a0 true _ A37.out).mono ?_); rintro e w66 ⟨rfl, hb⟩; refine ⟨_, rfl, ?_⟩; have n0_ := Aside0.mk (Kd.N_below (by (with_reducible repeat (first | apply Kd.N_alloc | apply Kd.N_drewN | apply Kd.N_drew)); exact HO_13.out) hb); have n1_ := Aside0.mk (Kd.C_below (by repeat (first | (with_reducible exact HR244_0.out) | (with_reducible refine Kd.C_alloc ?_ _) | (with_reducible refine Kd.C_drewN ?_ _) | (with_reducible refine Kd.C_drew ?_) | exact HR244_0.out)) hb); have n2_ := Aside0.mk (below_step (by repeat (first | (with_reducible first | exact HB.out | apply below_alloc | apply pw_below_drewN | apply below_drew1) | exact HB.out)) hb); clear HO_13; clear HR244_0; clear HB; have HO_13 := n0_; have HR244_0 := n1_; have HB := n2_; clear n0_ n1_ n2_; (try clear hb); (try clear hb2); (try clear hk); (try clear hi)))
                                        go_roundg kj20
                                        case measure => have := HK1.out; have := HK2.out; have := HJ20.out; omega
                                        case rel => exact ⟨(wrap64 (x21_2 + 1)), (by first | rfl | (simp; done) | (simp [*]; done)), H', ⟨by have := HK1.out; have := HK2.out; have := HJ20.out; omega⟩, ⟨by (with_reducible repeat (first | apply Kd.N_alloc | apply Kd.N_drewN | apply Kd.N_drew)); exact HO_13.out⟩, ⟨by repeat (first | (with_reducible exact HR244_0.out) | (with_reducible refine Kd.C_alloc ?_ _) | (with_reducible refine Kd.C_drewN ?_ _) | (with_reducible refine Kd.C_drew ?_) | exact HR244_0.out)⟩, ⟨by repeat (first | (with_reducible first | exact HB.out | apply below_alloc | apply pw_below_drewN | apply below_drew1) | exact HB.out)⟩⟩
                                    · rw [if_neg c63] at H
                                      have c63b0 : decide (48 ≤ a0) = false := decide_eq_false c63
                                      clear c63
                                      have H' := Aside0.mk H
                                      clear H
                                      have p249 : 0 ≤ (x21_2 : Int) := of_decide_eq_true (by first | (with_reducible assumption) | assumption)
                                      have q249 : x21_2 < ((rd_L3 y241 x15_1).length : Int) := of_decide_eq_true (by first | (with_reducible assumption) | assumption)
                                      obtain ⟨ad249, e249, hx249_0⟩ := Kd.at_int HR244_0.out x21_2 p249 q249
                                      cases e249
                                      (try replace hx249_0 := (HB.out.cell (World.block_lt_of_cell? w _ hx249_0)).trans hx249_0)
                                      replace p249 := eq_true p249
                                      replace q249 := eq_true q249
                                      go_wp2_with (first | ((with_reducible refine gate_callee (f := 14) rfl ?_); refine goesL_ (some 49) rfl rfl Try.func14 (by kernel_rfl) rfl #[.int .u8 (rd (rd_L3 y241 x15_1) x21_2), .int .u8 a0] rfl (by (try simp only [List.map_toArray, List.map_cons, List.map_nil]); first | done | rfl | (simp only [List.length_drop, List.length_take]; rfl)) ?_; (with_reducible refine (pct_In.calls kj20 (rd (rd_L3 y241 x15_1) x21_2) a0 true _ A37.out).mono ?_); rintro e w67 ⟨rfl, hb⟩; refine ⟨_, rfl, ?_⟩; have n0_ := Aside0.mk (Kd.N_below (by (with_reducible repeat (first | apply Kd.N_alloc | apply Kd.N_drewN | apply Kd.N_drew)); exact HO_13.out) hb); have n1_ := Aside0.mk (Kd.C_below (by repeat (first | (with_reducible exact HR244_0.out) | (with_reducible refine Kd.C_alloc ?_ _) | (with_reducible refine Kd.C_drewN ?_ _) | (with_reducible refine Kd.C_drew ?_) | exact HR244_0.out)) hb); have n2_ := Aside0.mk (below_step (by repeat (first | (with_reducible first | exact HB.out | apply below_alloc | apply pw_below_drewN | apply below_drew1) | exact HB.out)) hb); clear HO_13; clear HR244_0; clear HB; have HO_13 := n0_; have HR244_0 := n1_; have HB := n2_; clear n0_ n1_ n2_; (try clear hb); (try clear hb2); (try clear hk); (try clear hi)))
                                      go_roundg kj20
                                      case measure => have := HK1.out; have := HK2.out; have := HJ20.out; omega
                                      case rel => exact ⟨(wrap64 (x21_2 + 1)), (by first | rfl | (simp; done) | (simp [*]; done)), H', ⟨by have := HK1.out; have := HK2.out; have := HJ20.out; omega⟩, ⟨by (with_reducible repeat (first | apply Kd.N_alloc | apply Kd.N_drewN | apply Kd.N_drew)); exact HO_13.out⟩, ⟨by repeat (first | (with_reducible exact HR244_0.out) | (with_reducible refine Kd.C_alloc ?_ _) | (with_reducible refine Kd.C_drewN ?_ _) | (with_reducible refine Kd.C_drew ?_) | exact HR244_0.out)⟩, ⟨by repeat (first | (with_reducible first | exact HB.out | apply below_alloc | apply pw_below_drewN | apply below_drew1) | exact HB.out)⟩⟩
                              · replace c38 := Bool.eq_false_iff.mpr c38
                                subst c38
                                have H1 : (bastionlaw01_PctWider.l1 kj20 a0 (rd_L3 y241 x15_1) y241 (y241.length : Int) x15_1 ((rd_L3 y241 x15_1).length : Int) (wrap64 (x21_2 + 1))) = some r := by rw [if_neg (show ¬ (false = true) by decide)] at H; exact H
                                clear H
                                have H := H1
                                clear H1
                                have H' := Aside0.mk H
                                clear H
                                have p249 : 0 ≤ (x21_2 : Int) := of_decide_eq_true (by first | (with_reducible assumption) | assumption)
                                have q249 : x21_2 < ((rd_L3 y241 x15_1).length : Int) := of_decide_eq_true (by first | (with_reducible assumption) | assumption)
                                obtain ⟨ad249, e249, hx249_0⟩ := Kd.at_int HR244_0.out x21_2 p249 q249
                                cases e249
                                (try replace hx249_0 := (HB.out.cell (World.block_lt_of_cell? w _ hx249_0)).trans hx249_0)
                                replace p249 := eq_true p249
                                replace q249 := eq_true q249
                                go_wp2_with (first | ((with_reducible refine gate_callee (f := 14) rfl ?_); refine goesL_ (some 49) rfl rfl Try.func14 (by kernel_rfl) rfl #[.int .u8 (rd (rd_L3 y241 x15_1) x21_2), .int .u8 a0] rfl (by (try simp only [List.map_toArray, List.map_cons, List.map_nil]); first | done | rfl | (simp only [List.length_drop, List.length_take]; rfl)) ?_; (with_reducible refine (pct_In.calls kj20 (rd (rd_L3 y241 x15_1) x21_2) a0 false _ A37.out).mono ?_); rintro e w68 ⟨rfl, hb⟩; refine ⟨_, rfl, ?_⟩; have n0_ := Aside0.mk (Kd.N_below (by (with_reducible repeat (first | apply Kd.N_alloc | apply Kd.N_drewN | apply Kd.N_drew)); exact HO_13.out) hb); have n1_ := Aside0.mk (Kd.C_below (by repeat (first | (with_reducible exact HR244_0.out) | (with_reducible refine Kd.C_alloc ?_ _) | (with_reducible refine Kd.C_drewN ?_ _) | (with_reducible refine Kd.C_drew ?_) | exact HR244_0.out)) hb); have n2_ := Aside0.mk (below_step (by repeat (first | (with_reducible first | exact HB.out | apply below_alloc | apply pw_below_drewN | apply below_drew1) | exact HB.out)) hb); clear HO_13; clear HR244_0; clear HB; have HO_13 := n0_; have HR244_0 := n1_; have HB := n2_; clear n0_ n1_ n2_; (try clear hb); (try clear hb2); (try clear hk); (try clear hi)))
                                go_roundg kj20
                                case measure => have := HK1.out; have := HK2.out; have := HJ20.out; omega
                                case rel => exact ⟨(wrap64 (x21_2 + 1)), (by first | rfl | (simp; done) | (simp [*]; done)), H', ⟨by have := HK1.out; have := HK2.out; have := HJ20.out; omega⟩, ⟨by (with_reducible repeat (first | apply Kd.N_alloc | apply Kd.N_drewN | apply Kd.N_drew)); exact HO_13.out⟩, ⟨by repeat (first | (with_reducible exact HR244_0.out) | (with_reducible refine Kd.C_alloc ?_ _) | (with_reducible refine Kd.C_drewN ?_ _) | (with_reducible refine Kd.C_drew ?_) | exact HR244_0.out)⟩, ⟨by repeat (first | (with_reducible first | exact HB.out | apply below_alloc | apply pw_below_drewN | apply below_drew1) | exact HB.out)⟩⟩
                            · rw [if_neg c36] at H
                              exact absurd H (by simp)
                          · rw [if_neg c35] at H
                            exact absurd H (by simp)
                  · rw [if_neg c20] at H
                    have c20b0 : decide (x21_2 < ((rd_L3 y241 x15_1).length : Int)) = false := decide_eq_false c20
                    clear c20
                    have H' := Aside0.mk H
                    clear H
                    go_wp2
                    go_roundg k2
                    case measure => have := HK1.out; have := HK2.out; omega
                    case rel => exact ⟨(wrap64 (x15_1 + 1)), (by first | rfl | (simp; done) | (simp [*]; done)), H', ⟨by have := HK1.out; have := HK2.out; omega⟩, ⟨by (with_reducible repeat (first | apply Kd.N_alloc | apply Kd.N_drewN | apply Kd.N_drew)); exact HO_13.out⟩, ⟨by repeat (first | (with_reducible first | exact HB.out | apply below_alloc | apply pw_below_drewN | apply below_drew1) | exact HB.out)⟩⟩
            · rw [if_neg c19] at H
              exact absurd H (by simp)
          · rw [if_neg c18] at H
            exact absurd H (by simp)
        · rw [if_neg c17] at H
          have c17b0 : decide (x15_1 < (y241.length : Int)) = false := decide_eq_false c17
          clear c17
          obtain rfl := Option.some.inj H
          go_wp2
          go_ret
          exact ⟨by first | rfl | (simp [errW_none, errW_some] <;> rfl) | (simp [*, errW_none, errW_some] <;> rfl), by repeat (first | (with_reducible first | exact HB.out | apply below_alloc | apply pw_below_drewN | apply below_drew1) | exact HB.out)⟩
  · replace c3 := Bool.eq_false_iff.mpr c3
    subst c3
    have H1 : (some false) = some r := by rw [if_neg (show ¬ (false = true) by decide)] at H; exact H
    clear H
    have H := H1
    clear H1
    obtain rfl := Option.some.inj H
    go_enter Try.func6, Try.ntmps6
    go_wp2_with (first | ((with_reducible refine gate_callee (f := 13) rfl ?_); refine goesL_ (some 7) rfl rfl Try.func13 (by kernel_rfl) rfl #[] rfl (by (try simp only [List.map_toArray, List.map_cons, List.map_nil]); first | done | rfl | (simp only [List.length_drop, List.length_take]; rfl)) ?_; (with_reducible refine (bastionlaw01_lives.calls k  false _ A2.out).mono ?_); rintro e w69 ⟨rfl, hb⟩; refine ⟨_, rfl, ?_⟩; have n0_ := Aside0.mk (below_step (by repeat (first | (with_reducible first | exact HB.out | apply below_alloc | apply pw_below_drewN | apply below_drew1) | exact HB.out)) hb); clear HB; have HB := n0_; clear n0_; (try clear hb); (try clear hb2); (try clear hk); (try clear hi)))
    go_ret
    exact ⟨by first | rfl | (simp [errW_none, errW_some] <;> rfl) | (simp [*, errW_none, errW_some] <;> rfl), by repeat (first | (with_reducible first | exact HB.out | apply below_alloc | apply pw_below_drewN | apply below_drew1) | exact HB.out)⟩

/-- THE ONE PURE STATEMENT of bastionlaw01_PctWider: yours. -/
def bastionlaw01_PctWider.Pure : Prop := ∀ (a0 : Int), (Lit.int .u8 a0).wf = true → ∃ k, bastionlaw01_PctWider.f k a0 = some true
theorem bastionlaw01_PctWider.walk (P : bastionlaw01_PctWider.Pure) (a0 : Int) (w : World) (w0 : (Lit.int .u8 a0).wf = true) :
    Calls Try.prog 6 #[.int .u8 a0] w fun e w' => e = .returned (.bool true) ∧ Below w.heap.size w w' := by
  obtain ⟨k, h⟩ := P a0 w0
  refine (bastionlaw01_PctWider.calls k a0 true w h).mono ?_
  rintro e w' ⟨rfl, hd⟩
  exact ⟨rfl, hd⟩

end Go.Proofs.Ytiobcjgolmiabaa.Q
