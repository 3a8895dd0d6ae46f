/- Functions of the given program as plain Lean functions, each with the proof that the machine answers as it does; laid by a program of mine over the kit print. -/
import Derived.Test.YtnndgmbflkdhkaaGreatDoorSQbase
import Derived.Test.YtnndgmbflkdhkaaGreatDoorSCheck
import Derived.Test.YtnndgmbflkdhkaaGreatDoorSLives
import Derived.Test.YtnndgmbflkdhkaaGreatDoorSParse
import Derived.Test.YtnndgmbflkdhkaaGreatDoorSQbastionref14SameA
import Derived.Test.YtnndgmbflkdhkaaGreatDoorSQcspTextA
namespace Go.Proofs.YtnndgmbflkdhkaaGreatDoor.Q
open Go.RowKit Go.Proofs.YtnndgmbflkdhkaaGreatDoorW.PrintWords Go.Proofs.YtnndgmbflkdhkaaGreatDoorW.PrintLast Go.Proofs.YtnndgmbflkdhkaaGreatDoorW.PrintMore
attribute [local go_sem] max2_int min2_int max_two min_two max_three min_three max_four min_four
set_option linter.unusedVariables false
set_option linter.unusedSimpArgs false

/-! ### bastionlaw14_CspBack: function 3 -/
mutual
def bastionlaw14_CspBack.j0 : Nat → Bool → ByteArray → ByteArray → Bool → List (S35) → Bool → Option (Bool)
 | 0, _, _, _, _, _, _ => none
 | k + 1, x1, x2, x9, x46, x355000, x355001 => if x46 = true then (some false) else (if (x9.size : Int) > 4096 then (some true) else ((csp_Parse.f x9 x1).bind fun bt358 => (if bt358.2.2 = 0 then ((bastionref14_Same.f k x355000 x355001 bt358.1 bt358.2.1).bind fun t364 => (bastionlaw14_CspBack.j1 k x1 x2 x9 (!t364) x355000 x355001)) else (bastionlaw14_CspBack.j1 k x1 x2 x9 true x355000 x355001))))
def bastionlaw14_CspBack.j1 : Nat → Bool → ByteArray → ByteArray → Bool → List (S35) → Bool → Option (Bool)
 | 0, _, _, _, _, _, _ => none
 | k + 1, x1, x2, x9, x63, x355000, x355001 => if x63 = true then (some false) else (bastionlaw14_CspBack.l0 k x1 x2 x9 0 x355000 x355001)
def bastionlaw14_CspBack.l0 : Nat → Bool → ByteArray → ByteArray → Int → List (S35) → Bool → Option (Bool)
 | 0, _, _, _, _, _, _ => none
 | k + 1, x1, x2, x9, x13, x355000, x355001 => if x13 < (x2.size : Int) then (if 0 ≤ x13 then (if (bt x2 x13) = 59 then (some true) else (if (x355000.length : Int) = 0 then (some true) else (bastionlaw14_CspBack.l0 k x1 x2 x9 (wrap64 (x13 + 1)) x355000 x355001))) else (none)) else (if (x355000.length : Int) = 0 then (some true) else (if x9.size + 2 ≤ 9223372036854775807 then (if 0 < (x355000.length : Int) then (if (x9 ++ (⟨#[59, 32]⟩ : ByteArray)).size + ((rd_T35 x355000 0).f0).size ≤ 9223372036854775807 then (if ((x9 ++ (⟨#[59, 32]⟩ : ByteArray)) ++ ((rd_T35 x355000 0).f0)).size + 1 ≤ 9223372036854775807 then (if (((x9 ++ (⟨#[59, 32]⟩ : ByteArray)) ++ ((rd_T35 x355000 0).f0)) ++ (⟨#[32]⟩ : ByteArray)).size + x2.size ≤ 9223372036854775807 then (if (((((x9 ++ (⟨#[59, 32]⟩ : ByteArray)) ++ ((rd_T35 x355000 0).f0)) ++ (⟨#[32]⟩ : ByteArray)) ++ x2).size : Int) > 4096 then (some true) else ((csp_Parse.f ((((x9 ++ (⟨#[59, 32]⟩ : ByteArray)) ++ ((rd_T35 x355000 0).f0)) ++ (⟨#[32]⟩ : ByteArray)) ++ x2) x1).bind fun bt366 => (if bt366.2.2 = 0 then ((bastionref14_Same.f k x355000 x355001 bt366.1 bt366.2.1).bind fun t371 => (some t371)) else (some false)))) else (none)) else (none)) else (none)) else (none)) else (none)))
end
def bastionlaw14_CspBack.f (k : Nat) (a0 : ByteArray) (a1 : Bool) (a2 : ByteArray) : Option (Bool) := (bastionlaw14_lives.f).bind fun t348 => (if t348 = true then ((csp_Parse.f a0 a1).bind fun bt349 => (if bt349.2.2 = 0 then ((csp_Text.f k bt349.1 bt349.2.1).bind fun bt355 => ((csp_Check.f bt349.1 bt349.2.1).bind fun t357 => (if t357 = 0 then (if bt355.2 = 0 then (bastionlaw14_CspBack.j0 k a1 a2 bt355.1 (bt349.2.1 != a1) bt349.1 bt349.2.1) else (bastionlaw14_CspBack.j0 k a1 a2 bt355.1 true bt349.1 bt349.2.1)) else (bastionlaw14_CspBack.j0 k a1 a2 bt355.1 true bt349.1 bt349.2.1)))) else (some ((bt349.1.length : Int) == 0)))) else (some false))
theorem bastionlaw14_CspBack.mono_l : ∀ k, (∀ y0 y1 y2 y3 y4 y5, LeO (bastionlaw14_CspBack.j0 k y0 y1 y2 y3 y4 y5) (bastionlaw14_CspBack.j0 (k + 1) y0 y1 y2 y3 y4 y5)) ∧ (∀ y0 y1 y2 y3 y4 y5, LeO (bastionlaw14_CspBack.j1 k y0 y1 y2 y3 y4 y5) (bastionlaw14_CspBack.j1 (k + 1) y0 y1 y2 y3 y4 y5)) ∧ (∀ y0 y1 y2 y3 y4 y5, LeO (bastionlaw14_CspBack.l0 k y0 y1 y2 y3 y4 y5) (bastionlaw14_CspBack.l0 (k + 1) y0 y1 y2 y3 y4 y5))
 | 0 => ⟨fun _ _ _ _ _ _ r h => by simp [bastionlaw14_CspBack.j0] at h, fun _ _ _ _ _ _ r h => by simp [bastionlaw14_CspBack.j1] at h, fun _ _ _ _ _ _ r h => by simp [bastionlaw14_CspBack.l0] at h⟩
 | k + 1 => by
  obtain ⟨ih0, ih1, ih2⟩ := bastionlaw14_CspBack.mono_l k
  refine ⟨?_, ?_, ?_⟩
  ·intro y0 y1 y2 y3 y4 y5
   unfold bastionlaw14_CspBack.j0
   repeat' first
   | (with_reducible exact ih0 _ _ _ _ _ _)
   | (with_reducible exact ih1 _ _ _ _ _ _)
   | (with_reducible exact ih2 _ _ _ _ _ _)
   | (with_reducible exact bastionref14_Same.mono _ _ _ _ _)
   | (with_reducible exact csp_Text.mono _ _ _)
   | (with_reducible exact LeO.refl _)
   | (with_reducible exact LeO.none _)
   | (with_reducible refine LeO.ite ?_ ?_)
   | (with_reducible refine LeO.bind ?_ (fun _ => ?_))
   | exact ih0 _ _ _ _ _ _
   | exact ih1 _ _ _ _ _ _
   | exact ih2 _ _ _ _ _ _
   | exact bastionref14_Same.mono _ _ _ _ _
   | exact csp_Text.mono _ _ _
   | exact LeO.none _
   | refine LeO.ite ?_ ?_
   | refine LeO.bind ?_ (fun _ => ?_)
  ·intro y0 y1 y2 y3 y4 y5
   unfold bastionlaw14_CspBack.j1
   repeat' first
   | (with_reducible exact ih0 _ _ _ _ _ _)
   | (with_reducible exact ih1 _ _ _ _ _ _)
   | (with_reducible exact ih2 _ _ _ _ _ _)
   | (with_reducible exact bastionref14_Same.mono _ _ _ _ _)
   | (with_reducible exact csp_Text.mono _ _ _)
   | (with_reducible exact LeO.refl _)
   | (with_reducible exact LeO.none _)
   | (with_reducible refine LeO.ite ?_ ?_)
   | (with_reducible refine LeO.bind ?_ (fun _ => ?_))
   | exact ih0 _ _ _ _ _ _
   | exact ih1 _ _ _ _ _ _
   | exact ih2 _ _ _ _ _ _
   | exact bastionref14_Same.mono _ _ _ _ _
   | exact csp_Text.mono _ _ _
   | exact LeO.none _
   | refine LeO.ite ?_ ?_
   | refine LeO.bind ?_ (fun _ => ?_)
  ·intro y0 y1 y2 y3 y4 y5
   unfold bastionlaw14_CspBack.l0
   repeat' first
   | (with_reducible exact ih0 _ _ _ _ _ _)
   | (with_reducible exact ih1 _ _ _ _ _ _)
   | (with_reducible exact ih2 _ _ _ _ _ _)
   | (with_reducible exact bastionref14_Same.mono _ _ _ _ _)
   | (with_reducible exact csp_Text.mono _ _ _)
   | (with_reducible exact LeO.refl _)
   | (with_reducible exact LeO.none _)
   | (with_reducible refine LeO.ite ?_ ?_)
   | (with_reducible refine LeO.bind ?_ (fun _ => ?_))
   | exact ih0 _ _ _ _ _ _
   | exact ih1 _ _ _ _ _ _
   | exact ih2 _ _ _ _ _ _
   | exact bastionref14_Same.mono _ _ _ _ _
   | exact csp_Text.mono _ _ _
   | exact LeO.none _
   | refine LeO.ite ?_ ?_
   | refine LeO.bind ?_ (fun _ => ?_)
theorem bastionlaw14_CspBack.mono : ∀ a0 a1 a2 k, LeO (bastionlaw14_CspBack.f k a0 a1 a2) (bastionlaw14_CspBack.f (k + 1) a0 a1 a2) := by
 intro a0 a1 a2 k
 obtain ⟨ih0, ih1, ih2⟩ := bastionlaw14_CspBack.mono_l k
 unfold bastionlaw14_CspBack.f
 repeat' first
   | (with_reducible exact ih0 _ _ _ _ _ _)
   | (with_reducible exact ih1 _ _ _ _ _ _)
   | (with_reducible exact ih2 _ _ _ _ _ _)
   | (with_reducible exact bastionref14_Same.mono _ _ _ _ _)
   | (with_reducible exact csp_Text.mono _ _ _)
   | (with_reducible exact LeO.refl _)
   | (with_reducible exact LeO.none _)
   | (with_reducible refine LeO.ite ?_ ?_)
   | (with_reducible refine LeO.bind ?_ (fun _ => ?_))
   | exact ih0 _ _ _ _ _ _
   | exact ih1 _ _ _ _ _ _
   | exact ih2 _ _ _ _ _ _
   | exact bastionref14_Same.mono _ _ _ _ _
   | exact csp_Text.mono _ _ _
   | exact LeO.none _
   | refine LeO.ite ?_ ?_
   | refine LeO.bind ?_ (fun _ => ?_)
set_option maxHeartbeats 8000000 in
set_option maxRecDepth 100000 in
theorem bastionlaw14_CspBack.calls (k : Nat) (a0 : ByteArray) (a1 : Bool) (a2 : ByteArray) (r : Bool) (w : World) (hT : UTabs w) (h : bastionlaw14_CspBack.f k a0 a1 a2 = some r) :
  Calls Tryz.prog 3 #[.string a0, .bool a1, .string a2] w fun e w' => e = .returned (.bool r) ∧ Below w.heap.size w w' := by
 have hu25 := Tryz.underlying25
 have HB := Aside0.mk (Below.refl w.heap.size w)
 have HTB := Aside0.mk hT
 clear hT
 have H : ((bastionlaw14_lives.f).bind fun t348 => (if t348 = true then ((csp_Parse.f a0 a1).bind fun bt349 => (if bt349.2.2 = 0 then ((csp_Text.f k bt349.1 bt349.2.1).bind fun bt355 => ((csp_Check.f bt349.1 bt349.2.1).bind fun t357 => (if t357 = 0 then (if bt355.2 = 0 then (bastionlaw14_CspBack.j0 k a1 a2 bt355.1 (bt349.2.1 != a1) bt349.1 bt349.2.1) else (bastionlaw14_CspBack.j0 k a1 a2 bt355.1 true bt349.1 bt349.2.1)) else (bastionlaw14_CspBack.j0 k a1 a2 bt355.1 true bt349.1 bt349.2.1)))) else (some ((bt349.1.length : Int) == 0)))) else (some false))) = some r := h
 clear h
 replace H := Option.bind_eq_some_iff.mp H
 obtain ⟨t348, A40, H⟩ := H
 replace H : (if t348 = true then ((csp_Parse.f a0 a1).bind fun bt349 => (if bt349.2.2 = 0 then ((csp_Text.f k bt349.1 bt349.2.1).bind fun bt355 => ((csp_Check.f bt349.1 bt349.2.1).bind fun t357 => (if t357 = 0 then (if bt355.2 = 0 then (bastionlaw14_CspBack.j0 k a1 a2 bt355.1 (bt349.2.1 != a1) bt349.1 bt349.2.1) else (bastionlaw14_CspBack.j0 k a1 a2 bt355.1 true bt349.1 bt349.2.1)) else (bastionlaw14_CspBack.j0 k a1 a2 bt355.1 true bt349.1 bt349.2.1)))) else (some ((bt349.1.length : Int) == 0)))) else (some false)) = some r := H
 have A4 := Aside0.mk A40
 clear A40
 by_cases c5 : t348 = true
 ·subst c5
  have H1 : ((csp_Parse.f a0 a1).bind fun bt349 => (if bt349.2.2 = 0 then ((csp_Text.f k bt349.1 bt349.2.1).bind fun bt355 => ((csp_Check.f bt349.1 bt349.2.1).bind fun t357 => (if t357 = 0 then (if bt355.2 = 0 then (bastionlaw14_CspBack.j0 k a1 a2 bt355.1 (bt349.2.1 != a1) bt349.1 bt349.2.1) else (bastionlaw14_CspBack.j0 k a1 a2 bt355.1 true bt349.1 bt349.2.1)) else (bastionlaw14_CspBack.j0 k a1 a2 bt355.1 true bt349.1 bt349.2.1)))) else (some ((bt349.1.length : Int) == 0)))) = some r := by rw [if_pos rfl] at H; exact H
  clear H
  have H := H1
  clear H1
  replace H := Option.bind_eq_some_iff.mp H
  obtain ⟨⟨t349, t352, t353⟩, A60, H⟩ := H
  replace H : (if t353 = 0 then ((csp_Text.f k t349 t352).bind fun bt355 => ((csp_Check.f t349 t352).bind fun t357 => (if t357 = 0 then (if bt355.2 = 0 then (bastionlaw14_CspBack.j0 k a1 a2 bt355.1 (t352 != a1) t349 t352) else (bastionlaw14_CspBack.j0 k a1 a2 bt355.1 true t349 t352)) else (bastionlaw14_CspBack.j0 k a1 a2 bt355.1 true t349 t352)))) else (some ((t349.length : Int) == 0))) = some r := H
  have A6 := Aside0.mk A60
  clear A60
  by_cases c7 : t353 = 0
  ·rw [if_pos c7] at H
   have c7b0 : (t353 == 0) = true := beq_iff_eq.mpr c7
   have c7b1 : (t353 != 0) = false := bne_eq_false_iff_eq.mpr c7
   clear c7
   replace H := Option.bind_eq_some_iff.mp H
   obtain ⟨⟨t355, t356⟩, A80, H⟩ := H
   replace H : ((csp_Check.f t349 t352).bind fun t357 => (if t357 = 0 then (if t356 = 0 then (bastionlaw14_CspBack.j0 k a1 a2 t355 (t352 != a1) t349 t352) else (bastionlaw14_CspBack.j0 k a1 a2 t355 true t349 t352)) else (bastionlaw14_CspBack.j0 k a1 a2 t355 true t349 t352))) = some r := H
   have A8 := Aside0.mk A80
   clear A80
   have HC9 := Aside0.mk H
   clear H
   go_enter Tryz.func3, Tryz.ntmps3
   go_upto_region 7 with (first | ((with_reducible refine gate_callee (f := 10) rfl ?_); refine goesL_ (some 15) rfl rfl Tryz.func10 (by kernel_rfl) rfl #[] rfl (by (try simp only [List.map_toArray, List.map_cons, List.map_nil]); first | done | rfl | (simp only [List.length_drop, List.length_take]; rfl)) ?_; (with_reducible refine (bastionlaw14_lives.calls  true _ ?side1 A4.out).mono ?_); (case side1 => exact UTabs.below HTB.out (by repeat (first | (with_reducible first | exact HB.out | apply below_alloc | apply pw_below_drewN | apply below_drew1) | exact HB.out))); rintro e w10 ⟨rfl, hb⟩; refine ⟨_, rfl, ?_⟩; have n0_ := Aside0.mk (below_step (by repeat (first | (with_reducible first | exact HB.out | apply below_alloc | apply pw_below_drewN | apply below_drew1) | exact HB.out)) hb); clear HB; have HB := n0_; clear n0_; (try clear hb); (try clear hb2); (try clear hk); (try clear hi)) | ((with_reducible refine gate_callee (f := 11) rfl ?_); refine goesL_ (some 20) rfl rfl Tryz.func11 (by kernel_rfl) rfl #[.string a0, .bool a1] rfl (by (try simp only [List.map_toArray, List.map_cons, List.map_nil]); first | done | rfl | (simp only [List.length_drop, List.length_take]; rfl)) ?_; (with_reducible refine (csp_Parse.calls a0 a1 t349 t352 t353 _ A6.out).mono ?_); rintro e w11 ⟨v350, rfl, ho0, hb⟩; refine ⟨_, rfl, ?_⟩; have n0_ := Aside0.mk (Kd.N_lower (Kd.N_mono (ok' := fun k_ => True) ho0 (fun k_ hk_ => trivial)) (below_size (by repeat (first | (with_reducible first | exact HB.out | apply below_alloc | apply pw_below_drewN | apply below_drew1) | exact HB.out)))); have n1_ := Aside0.mk (below_step (by repeat (first | (with_reducible first | exact HB.out | apply below_alloc | apply pw_below_drewN | apply below_drew1) | exact HB.out)) hb); clear HB; have HO351 := n0_; have HB := n1_; clear n0_ n1_; (try clear hb); (try clear hb2); (try clear hk); (try clear hi); (try clear ho0)) | ((with_reducible refine gate_dst (N := 7) rfl ?_); (try (refine gate_guard (by rfl) ?_; dsimp only)); refine box_event ?hg (N := 7) ?hd (cs := #[.slice none 0 0, .bool false]) (t := 25) ?hr ?_; (case hd => rfl); (case hg => rfl); (case hr => first | (go_simp; done) | (go_simp; rfl)); intro gb354 hg w12 hbox hb; have n0_ := Aside0.mk (Kd.N_below (Kd.N_elderB (by (with_reducible repeat (first | apply Kd.N_alloc | apply Kd.N_drewN | apply Kd.N_drew)); exact HO351.out) gb354 (Nat.le_of_eq hg.symm)) hb); have n1_ := Aside0.mk (below_step (by repeat (first | (with_reducible first | exact HB.out | apply below_alloc | apply pw_below_drewN | apply below_drew1) | exact HB.out)) hb); have n2_ := Aside0.mk (hbox); have n3_ := Aside0.mk ((by rw [hg]; exact (below_size (by repeat (first | (with_reducible first | exact HB.out | apply below_alloc | apply pw_below_drewN | apply below_drew1) | exact HB.out))) : w.heap.size ≤ gb354)); have n4_ := Aside0.mk ((by rw [hg]; exact (below_size (by repeat (first | (with_reducible first | exact HB.out | apply below_alloc | apply pw_below_drewN | apply below_drew1) | exact HB.out))) : w.heap.size ≤ gb354)); clear HO351; clear HB; have HO351 := n0_; have HB := n1_; have BK354 := n2_; have GW354 := n3_; have GE354 := n4_; clear n0_ n1_ n2_ n3_ n4_; clear hb hbox hg; obtain ⟨Ao13, co13, eo13⟩ := Kd.N_slice HO351.out; subst eo13; have hcz14_0 : w12.cell? ⟨gb354, 0, none⟩ = some (.slice none 0 0) := (blk_cell BK354.out 0).trans rfl; have hcz14_1 : w12.cell? ⟨gb354, 1, none⟩ = some (.bool false) := (blk_cell BK354.out 1).trans rfl; have hfz14_0 := blk_frozen BK354.out 0; have hfz14_1 := blk_frozen BK354.out 1) | ((with_reducible refine gate_callee (f := 12) rfl ?_); refine goesL_ (some 31) rfl rfl Tryz.func12 (by kernel_rfl) rfl #[.agg #[.slice Ao13 t349.length co13, .bool t352]] rfl (by (try simp only [List.map_toArray, List.map_cons, List.map_nil]); first | done | rfl | (simp only [List.length_drop, List.length_take]; rfl)) ?_; (with_reducible refine (csp_Text.calls k _ _ t349 t352 t355 t356 _ ?side1 ?side2 A8.out).mono ?_); (case side1 => refine (Kd.N_reads' (e := 35) (base := w.heap.size) (ok := fun k_ => (True ∧ k_ ≠ gb354)) (n := t349.length) (c := co13) ?_).2.2; exact (by (with_reducible repeat (first | apply Kd.N_alloc | apply Kd.N_drewN | apply Kd.N_drew)); exact (Kd.N_mono (Kd.N_far (p := ⟨gb354, 1, none⟩) (Kd.N_far (p := ⟨gb354, 0, none⟩) (Kd.N_mono HO351.out (fun k_ hk => (⟨hk, hk.2⟩ : _ ∧ k_ ≠ gb354))) (fun _ hk => hk.2) (.slice Ao13 t349.length co13)) (fun _ hk => hk.2) (.bool t352)) (fun _ h_ => h_.1)))); (case side2 => exact (Kd.N_reads' HO351.out).2.1); rintro e w15 ⟨rfl, hb⟩; refine ⟨_, rfl, ?_⟩; have n0_ := Aside0.mk (Kd.N_below (by (with_reducible repeat (first | apply Kd.N_alloc | apply Kd.N_drewN | apply Kd.N_drew)); exact (Kd.N_mono (Kd.N_far (p := ⟨gb354, 1, none⟩) (Kd.N_far (p := ⟨gb354, 0, none⟩) (Kd.N_mono HO351.out (fun k_ hk => (⟨hk, hk.2⟩ : _ ∧ k_ ≠ gb354))) (fun _ hk => hk.2) (.slice Ao13 t349.length co13)) (fun _ hk => hk.2) (.bool t352)) (fun _ h_ => h_.1))) hb); have n1_ := Aside0.mk (blk_below (g := gb354) (o := .cells #[.slice Ao13 t349.length co13, .bool t352] 25 (0, 0)) (by (with_reducible repeat (first | refine blk_drewN ?_ _ | refine blk_drew ?_ | refine blk_alloc ?_ _)); refine blk_put (cs := #[.slice Ao13 t349.length co13, .bool false]) ?_ 1 _ rfl; (with_reducible repeat (first | refine blk_drewN ?_ _ | refine blk_drew ?_ | refine blk_alloc ?_ _)); refine blk_put (cs := #[.slice none 0 0, .bool false]) ?_ 0 _ rfl; (with_reducible repeat (first | refine blk_drewN ?_ _ | refine blk_drew ?_ | refine blk_alloc ?_ _)); exact BK354.out) hb); have n2_ := Aside0.mk (below_step (by repeat (first | (with_reducible first | exact HB.out | apply below_alloc | apply pw_below_drewN | apply below_drew1 | refine below_set ?_ GE354.out) | exact HB.out)) hb); clear HO351; clear BK354; clear HB; have HO351 := n0_; have BK354 := n1_; have HB := n2_; clear n0_ n1_ n2_; (try clear hb); (try clear hb2); (try clear hk); (try clear hi)))
   (try simp only [Act.put, List.setIfInBounds_toArray, List.set_cons_zero, List.set_cons_succ])
   go_cut [46] (fun v46 wc => ∃ (kq : Nat) (x46_8 : Bool), v46 = .bool x46_8 ∧ Aside0 (bastionlaw14_CspBack.j0 kq a1 a2 t355 x46_8 t349 t352 = some r) ∧ Aside0 (kq ≤ k) ∧ Aside0 (Kd.N k35 35 wc w.heap.size (fun k_ => k_ ≠ gb354) (.slice Ao13 t349.length co13) t349) ∧ Aside0 (wc.heap[gb354]? = some (.cells #[(.slice Ao13 t349.length co13), .bool t352] 25 (0, 0))) ∧ Aside0 (Below w.heap.size w wc))
   case first =>
    have H := HC9.out
    clear HC9
    replace H := Option.bind_eq_some_iff.mp H
    obtain ⟨t357, A160, H⟩ := H
    replace H : (if t357 = 0 then (if t356 = 0 then (bastionlaw14_CspBack.j0 k a1 a2 t355 (t352 != a1) t349 t352) else (bastionlaw14_CspBack.j0 k a1 a2 t355 true t349 t352)) else (bastionlaw14_CspBack.j0 k a1 a2 t355 true t349 t352)) = some r := H
    have A16 := Aside0.mk A160
    clear A160
    by_cases c17 : t357 = 0
    ·rw [if_pos c17] at H
     have c17b0 : (t357 == 0) = true := beq_iff_eq.mpr c17
     have c17b1 : (t357 != 0) = false := bne_eq_false_iff_eq.mpr c17
     clear c17
     (first | rw [c17b0] | (simp only [i64_w, i32_w]; rw [c17b0]) | skip)
     by_cases c18 : t356 = 0
     ·rw [if_pos c18] at H
      have c18b0 : (t356 == 0) = true := beq_iff_eq.mpr c18
      have c18b1 : (t356 != 0) = false := bne_eq_false_iff_eq.mpr c18
      clear c18
      have H' := Aside0.mk H
      clear H
      have hcz19_0 : w15.cell? ⟨gb354, 0, none⟩ = some (.slice Ao13 t349.length co13) := (blk_cell BK354.out 0).trans rfl
      have hcz19_1 : w15.cell? ⟨gb354, 1, none⟩ = some (.bool t352) := (blk_cell BK354.out 1).trans rfl
      have hfz19_0 := blk_frozen BK354.out 0; have hfz19_1 := blk_frozen BK354.out 1
      go_wp2_with (first | ((with_reducible refine gate_callee (f := 13) rfl ?_); refine goesL_ (some 35) rfl rfl Tryz.func13 (by kernel_rfl) rfl #[.agg #[.slice Ao13 t349.length co13, .bool t352]] rfl (by (try simp only [List.map_toArray, List.map_cons, List.map_nil]); first | done | rfl | (simp only [List.length_drop, List.length_take]; rfl)) ?_; (with_reducible refine (csp_Check.calls _ _ t349 t352 t357 _ ?side1 ?side2 A16.out).mono ?_); (case side1 => repeat (first | exact (Kd.N_reads' HO351.out).2.2 | (with_reducible refine Kd.C_alloc ?_ _) | (with_reducible refine Kd.C_drewN ?_ _) | (with_reducible refine Kd.C_drew ?_))); (case side2 => exact (Kd.N_reads' HO351.out).2.1); rintro e w20 ⟨rfl, hb⟩; refine ⟨_, rfl, ?_⟩; have n0_ := Aside0.mk (Kd.N_below (by (with_reducible repeat (first | apply Kd.N_alloc | apply Kd.N_drewN | apply Kd.N_drew)); exact HO351.out) hb); have n1_ := Aside0.mk (blk_below (g := gb354) (o := .cells #[.slice Ao13 t349.length co13, .bool t352] 25 (0, 0)) (by (with_reducible repeat (first | refine blk_drewN ?_ _ | refine blk_drew ?_ | refine blk_alloc ?_ _)); exact BK354.out) hb); have n2_ := Aside0.mk (below_step (by repeat (first | (with_reducible first | exact HB.out | apply below_alloc | apply pw_below_drewN | apply below_drew1 | refine below_set ?_ GE354.out) | exact HB.out)) hb); clear HO351; clear BK354; clear HB; have HO351 := n0_; have BK354 := n1_; have HB := n2_; clear n0_ n1_ n2_; (try clear hb); (try clear hb2); (try clear hk); (try clear hi); have hcz21_0 : w20.cell? ⟨gb354, 0, none⟩ = some (.slice Ao13 t349.length co13) := (blk_cell BK354.out 0).trans rfl; have hcz21_1 : w20.cell? ⟨gb354, 1, none⟩ = some (.bool t352) := (blk_cell BK354.out 1).trans rfl; have hfz21_0 := blk_frozen BK354.out 0; have hfz21_1 := blk_frozen BK354.out 1))
      go_meet
      case rel => exact ⟨_, ((t352 != a1)), (by first | rfl | (simp; done) | (simp [*]; done)), H', ⟨by first | omega | exact Nat.le_refl _⟩, ⟨by (with_reducible repeat (first | apply Kd.N_alloc | apply Kd.N_drewN | apply Kd.N_drew)); exact Kd.N_mono HO351.out (fun _ hk => hk.2)⟩, ⟨by (with_reducible repeat (first | refine blk_drewN ?_ _ | refine blk_drew ?_ | refine blk_alloc ?_ _)); exact BK354.out⟩, ⟨by repeat (first | (with_reducible first | exact HB.out | apply below_alloc | apply pw_below_drewN | apply below_drew1 | refine below_set ?_ GE354.out) | exact HB.out)⟩⟩
     ·rw [if_neg c18] at H
      have c18b0 : (t356 == 0) = false := beq_eq_false_iff_ne.mpr c18
      have c18b1 : (t356 != 0) = true := bne_iff_ne.mpr c18
      have H' := Aside0.mk H
      clear H
      have hcz22_0 : w15.cell? ⟨gb354, 0, none⟩ = some (.slice Ao13 t349.length co13) := (blk_cell BK354.out 0).trans rfl
      have hcz22_1 : w15.cell? ⟨gb354, 1, none⟩ = some (.bool t352) := (blk_cell BK354.out 1).trans rfl
      have hfz22_0 := blk_frozen BK354.out 0; have hfz22_1 := blk_frozen BK354.out 1
      go_wp2_with (first | ((with_reducible refine gate_callee (f := 13) rfl ?_); refine goesL_ (some 35) rfl rfl Tryz.func13 (by kernel_rfl) rfl #[.agg #[.slice Ao13 t349.length co13, .bool t352]] rfl (by (try simp only [List.map_toArray, List.map_cons, List.map_nil]); first | done | rfl | (simp only [List.length_drop, List.length_take]; rfl)) ?_; (with_reducible refine (csp_Check.calls _ _ t349 t352 t357 _ ?side1 ?side2 A16.out).mono ?_); (case side1 => repeat (first | exact (Kd.N_reads' HO351.out).2.2 | (with_reducible refine Kd.C_alloc ?_ _) | (with_reducible refine Kd.C_drewN ?_ _) | (with_reducible refine Kd.C_drew ?_))); (case side2 => exact (Kd.N_reads' HO351.out).2.1); rintro e w23 ⟨rfl, hb⟩; refine ⟨_, rfl, ?_⟩; have n0_ := Aside0.mk (Kd.N_below (by (with_reducible repeat (first | apply Kd.N_alloc | apply Kd.N_drewN | apply Kd.N_drew)); exact HO351.out) hb); have n1_ := Aside0.mk (blk_below (g := gb354) (o := .cells #[.slice Ao13 t349.length co13, .bool t352] 25 (0, 0)) (by (with_reducible repeat (first | refine blk_drewN ?_ _ | refine blk_drew ?_ | refine blk_alloc ?_ _)); exact BK354.out) hb); have n2_ := Aside0.mk (below_step (by repeat (first | (with_reducible first | exact HB.out | apply below_alloc | apply pw_below_drewN | apply below_drew1 | refine below_set ?_ GE354.out) | exact HB.out)) hb); clear HO351; clear BK354; clear HB; have HO351 := n0_; have BK354 := n1_; have HB := n2_; clear n0_ n1_ n2_; (try clear hb); (try clear hb2); (try clear hk); (try clear hi)))
      go_meet
      case rel => exact ⟨_, (true), (by first | rfl | (simp; done) | (simp [*]; done)), H', ⟨by first | omega | exact Nat.le_refl _⟩, ⟨by (with_reducible repeat (first | apply Kd.N_alloc | apply Kd.N_drewN | apply Kd.N_drew)); exact Kd.N_mono HO351.out (fun _ hk => hk.2)⟩, ⟨by (with_reducible repeat (first | refine blk_drewN ?_ _ | refine blk_drew ?_ | refine blk_alloc ?_ _)); exact BK354.out⟩, ⟨by repeat (first | (with_reducible first | exact HB.out | apply below_alloc | apply pw_below_drewN | apply below_drew1 | refine below_set ?_ GE354.out) | exact HB.out)⟩⟩
    ·rw [if_neg c17] at H
     have c17b0 : (t357 == 0) = false := beq_eq_false_iff_ne.mpr c17
     have c17b1 : (t357 != 0) = true := bne_iff_ne.mpr c17
     (first | rw [c17b0] | (simp only [i64_w, i32_w]; rw [c17b0]) | skip)
     have H' := Aside0.mk H
     clear H
     have hcz24_0 : w15.cell? ⟨gb354, 0, none⟩ = some (.slice Ao13 t349.length co13) := (blk_cell BK354.out 0).trans rfl
     have hcz24_1 : w15.cell? ⟨gb354, 1, none⟩ = some (.bool t352) := (blk_cell BK354.out 1).trans rfl
     have hfz24_0 := blk_frozen BK354.out 0; have hfz24_1 := blk_frozen BK354.out 1
     go_wp2_with (first | ((with_reducible refine gate_callee (f := 13) rfl ?_); refine goesL_ (some 35) rfl rfl Tryz.func13 (by kernel_rfl) rfl #[.agg #[.slice Ao13 t349.length co13, .bool t352]] rfl (by (try simp only [List.map_toArray, List.map_cons, List.map_nil]); first | done | rfl | (simp only [List.length_drop, List.length_take]; rfl)) ?_; (with_reducible refine (csp_Check.calls _ _ t349 t352 t357 _ ?side1 ?side2 A16.out).mono ?_); (case side1 => repeat (first | exact (Kd.N_reads' HO351.out).2.2 | (with_reducible refine Kd.C_alloc ?_ _) | (with_reducible refine Kd.C_drewN ?_ _) | (with_reducible refine Kd.C_drew ?_))); (case side2 => exact (Kd.N_reads' HO351.out).2.1); rintro e w25 ⟨rfl, hb⟩; refine ⟨_, rfl, ?_⟩; have n0_ := Aside0.mk (Kd.N_below (by (with_reducible repeat (first | apply Kd.N_alloc | apply Kd.N_drewN | apply Kd.N_drew)); exact HO351.out) hb); have n1_ := Aside0.mk (blk_below (g := gb354) (o := .cells #[.slice Ao13 t349.length co13, .bool t352] 25 (0, 0)) (by (with_reducible repeat (first | refine blk_drewN ?_ _ | refine blk_drew ?_ | refine blk_alloc ?_ _)); exact BK354.out) hb); have n2_ := Aside0.mk (below_step (by repeat (first | (with_reducible first | exact HB.out | apply below_alloc | apply pw_below_drewN | apply below_drew1 | refine below_set ?_ GE354.out) | exact HB.out)) hb); clear HO351; clear BK354; clear HB; have HO351 := n0_; have BK354 := n1_; have HB := n2_; clear n0_ n1_ n2_; (try clear hb); (try clear hb2); (try clear hk); (try clear hi)))
     go_meet
     case rel => exact ⟨_, (true), (by first | rfl | (simp; done) | (simp [*]; done)), H', ⟨by first | omega | exact Nat.le_refl _⟩, ⟨by (with_reducible repeat (first | apply Kd.N_alloc | apply Kd.N_drewN | apply Kd.N_drew)); exact Kd.N_mono HO351.out (fun _ hk => hk.2)⟩, ⟨by (with_reducible repeat (first | refine blk_drewN ?_ _ | refine blk_drew ?_ | refine blk_alloc ?_ _)); exact BK354.out⟩, ⟨by repeat (first | (with_reducible first | exact HB.out | apply below_alloc | apply pw_below_drewN | apply below_drew1 | refine below_set ?_ GE354.out) | exact HB.out)⟩⟩
   case rest =>
    clear HC9
    (try clear c1); (try clear p2); (try clear c3); (try clear c5); (try clear c7); (try clear c7b0); (try clear c7b1); (try clear c10); (try clear c11); (try clear c12); (try clear c13); (try clear c17); (try clear c17b0); (try clear c17b1); (try clear c18); (try clear c18b0); (try clear c18b1); (try clear hcz14_0); (try clear hcz14_1); (try clear hcz19_0); (try clear hcz19_1); (try clear hcz21_0); (try clear hcz21_1); (try clear hcz22_0); (try clear hcz22_1); (try clear hcz24_0); (try clear hcz24_1); (try clear hfz14_0); (try clear hfz14_1); (try clear hfz19_0); (try clear hfz19_1); (try clear hfz21_0); (try clear hfz21_1); (try clear hfz22_0); (try clear hfz22_1); (try clear hfz24_0); (try clear hfz24_1)
    obtain ⟨kq, x46_8, rfl, HA, HJ8, HO_355000, BK354, HB⟩ := hcut
    cases kq with
    | zero => exact absurd HA.out (by simp [bastionlaw14_CspBack.j0])
    | succ kj8 =>
     have H := HA.out
     clear HA
     simp only [bastionlaw14_CspBack.j0] at H
     by_cases c26 : x46_8 = true
     ·subst c26
      have H1 : (some false) = some r := by rw [if_pos rfl] at H; exact H
      clear H
      have H := H1
      clear H1
      obtain rfl := Option.some.inj H
      go_wp2
      go_ret
      exact ⟨by first | rfl | (simp [errW_none, errW_some] <;> rfl) | (simp [*, errW_none, errW_some] <;> rfl), by repeat (first | (with_reducible first | exact HB.out | apply below_alloc | apply pw_below_drewN | apply below_drew1 | refine below_set ?_ GE354.out) | exact HB.out)⟩
     ·replace c26 := Bool.eq_false_iff.mpr c26
      subst c26
      have H1 : (if (t355.size : Int) > 4096 then (some true) else ((csp_Parse.f t355 a1).bind fun bt358 => (if bt358.2.2 = 0 then ((bastionref14_Same.f kj8 t349 t352 bt358.1 bt358.2.1).bind fun t364 => (bastionlaw14_CspBack.j1 kj8 a1 a2 t355 (!t364) t349 t352)) else (bastionlaw14_CspBack.j1 kj8 a1 a2 t355 true t349 t352)))) = some r := by rw [if_neg (show ¬ (false = true) by decide)] at H; exact H
      clear H
      have H := H1
      clear H1
      by_cases c27 : (t355.size : Int) > 4096
      ·rw [if_pos c27] at H
       have c27b0 : decide (4096 < (t355.size : Int)) = true := decide_eq_true c27
       have c27b1 : decide (4096 < t355.size) = true := decide_eq_true (by omega)
       clear c27
       obtain rfl := Option.some.inj H
       go_wp2
       go_ret
       exact ⟨by first | rfl | (simp [errW_none, errW_some] <;> rfl) | (simp [*, errW_none, errW_some] <;> rfl), by repeat (first | (with_reducible first | exact HB.out | apply below_alloc | apply pw_below_drewN | apply below_drew1 | refine below_set ?_ GE354.out) | exact HB.out)⟩
      ·rw [if_neg c27] at H
       have c27b0 : decide (4096 < (t355.size : Int)) = false := decide_eq_false c27
       have c27b1 : decide (4096 < t355.size) = false := decide_eq_false (by omega)
       clear c27
       replace H := Option.bind_eq_some_iff.mp H
       obtain ⟨⟨t358, t361, t362⟩, A280, H⟩ := H
       replace H : (if t362 = 0 then ((bastionref14_Same.f kj8 t349 t352 t358 t361).bind fun t364 => (bastionlaw14_CspBack.j1 kj8 a1 a2 t355 (!t364) t349 t352)) else (bastionlaw14_CspBack.j1 kj8 a1 a2 t355 true t349 t352)) = some r := H
       have A28 := Aside0.mk A280
       clear A280
       have HC29 := Aside0.mk H
       clear H
       go_upto_region 12 with (first | ((with_reducible refine gate_callee (f := 11) rfl ?_); refine goesL_ (some 53) rfl rfl Tryz.func11 (by kernel_rfl) rfl #[.string t355, .bool a1] rfl (by (try simp only [List.map_toArray, List.map_cons, List.map_nil]); first | done | rfl | (simp only [List.length_drop, List.length_take]; rfl)) ?_; (with_reducible refine (csp_Parse.calls t355 a1 t358 t361 t362 _ A28.out).mono ?_); rintro e w30 ⟨v359, rfl, ho0, hb⟩; refine ⟨_, rfl, ?_⟩; have n0_ := Aside0.mk (Kd.N_elder' (by (with_reducible repeat (first | apply Kd.N_alloc | apply Kd.N_drewN | apply Kd.N_drew)); exact HO_355000.out) (Kd.N_base ho0) hb); have n1_ := Aside0.mk (Kd.N_lower (Kd.N_mono (ok' := fun k_ => some k_ ≠ (.slice Ao13 t349.length co13 : Value).ownBlock ∧ k_ ≠ gb354) ho0 (fun k_ hk_ => ⟨(Kd.fresh' (Kd.N_lt (by (with_reducible repeat (first | apply Kd.N_alloc | apply Kd.N_drewN | apply Kd.N_drew)); exact HO_355000.out)) k_ hk_), (Kd.freshB (g := gb354) (o := .cells #[.slice Ao13 t349.length co13, .bool t352] 25 (0, 0)) (by (with_reducible repeat (first | refine blk_drewN ?_ _ | refine blk_drew ?_ | refine blk_alloc ?_ _)); exact BK354.out) k_ hk_)⟩)) (below_size (by repeat (first | (with_reducible first | exact HB.out | apply below_alloc | apply pw_below_drewN | apply below_drew1 | refine below_set ?_ GE354.out) | exact HB.out)))); have n2_ := Aside0.mk (blk_below (g := gb354) (o := .cells #[.slice Ao13 t349.length co13, .bool t352] 25 (0, 0)) (by (with_reducible repeat (first | refine blk_drewN ?_ _ | refine blk_drew ?_ | refine blk_alloc ?_ _)); exact BK354.out) hb); have n3_ := Aside0.mk (below_step (by repeat (first | (with_reducible first | exact HB.out | apply below_alloc | apply pw_below_drewN | apply below_drew1 | refine below_set ?_ GE354.out) | exact HB.out)) hb); clear HO_355000; clear BK354; clear HB; have HO_355000 := n0_; have HO360 := n1_; have BK354 := n2_; have HB := n3_; clear n0_ n1_ n2_ n3_; (try clear hb); (try clear hb2); (try clear hk); (try clear hi); (try clear ho0)) | ((with_reducible refine gate_dst (N := 11) rfl ?_); (try (refine gate_guard (by rfl) ?_; dsimp only)); refine box_event ?hg (N := 11) ?hd (cs := #[.slice none 0 0, .bool false]) (t := 25) ?hr ?_; (case hd => rfl); (case hg => rfl); (case hr => first | (go_simp; done) | (go_simp; rfl)); intro gb363 hg w31 hbox hb; have n0_ := Aside0.mk (Kd.N_below (Kd.N_elderB (by (with_reducible repeat (first | apply Kd.N_alloc | apply Kd.N_drewN | apply Kd.N_drew)); exact HO_355000.out) gb363 (Nat.le_of_eq hg.symm)) hb); have n1_ := Aside0.mk (Kd.N_below (Kd.N_elderB (by (with_reducible repeat (first | apply Kd.N_alloc | apply Kd.N_drewN | apply Kd.N_drew)); exact HO360.out) gb363 (Nat.le_of_eq hg.symm)) hb); have n2_ := Aside0.mk (blk_below (g := gb354) (o := .cells #[.slice Ao13 t349.length co13, .bool t352] 25 (0, 0)) (by (with_reducible repeat (first | refine blk_drewN ?_ _ | refine blk_drew ?_ | refine blk_alloc ?_ _)); exact BK354.out) hb); have n3_ := Aside0.mk (below_step (by repeat (first | (with_reducible first | exact HB.out | apply below_alloc | apply pw_below_drewN | apply below_drew1 | refine below_set ?_ GE354.out) | exact HB.out)) hb); have n4_ := Aside0.mk (hbox); have n5_ := Aside0.mk ((by rw [hg]; exact (below_size (by repeat (first | (with_reducible first | exact HB.out | apply below_alloc | apply pw_below_drewN | apply below_drew1 | refine below_set ?_ GE354.out) | exact HB.out))) : w.heap.size ≤ gb363)); have n6_ := Aside0.mk ((by rw [hg]; exact (below_size (by repeat (first | (with_reducible first | exact HB.out | apply below_alloc | apply pw_below_drewN | apply below_drew1 | refine below_set ?_ GE354.out) | exact HB.out))) : w.heap.size ≤ gb363)); have n7_ := Aside0.mk ((by rw [hg]; exact Nat.ne_of_lt (blk_lt (g := gb354) (o := .cells #[.slice Ao13 t349.length co13, .bool t352] 25 (0, 0)) (by (with_reducible repeat (first | refine blk_drewN ?_ _ | refine blk_drew ?_ | refine blk_alloc ?_ _)); exact BK354.out)) : gb354 ≠ gb363)); have n8_ := Aside0.mk ((by rw [hg]; exact Nat.ne_of_gt (blk_lt (g := gb354) (o := .cells #[.slice Ao13 t349.length co13, .bool t352] 25 (0, 0)) (by (with_reducible repeat (first | refine blk_drewN ?_ _ | refine blk_drew ?_ | refine blk_alloc ?_ _)); exact BK354.out)) : gb363 ≠ gb354)); clear HO_355000; clear HO360; clear BK354; clear HB; have HO_355000 := n0_; have HO360 := n1_; have BK354 := n2_; have HB := n3_; have BK363 := n4_; have GW363 := n5_; have GE363 := n6_; have NB354_363 := n7_; have NB363_354 := n8_; clear n0_ n1_ n2_ n3_ n4_ n5_ n6_ n7_ n8_; clear hb hbox hg; obtain ⟨Ao32, co32, eo32⟩ := Kd.N_slice HO360.out; subst eo32; have hnb33 := NB363_354.out; have hnc33 := NB354_363.out; have hcz34_0 : w31.cell? ⟨gb363, 0, none⟩ = some (.slice none 0 0) := (blk_cell BK363.out 0).trans rfl; have hcz34_1 : w31.cell? ⟨gb363, 1, none⟩ = some (.bool false) := (blk_cell BK363.out 1).trans rfl; have hfz34_0 := blk_frozen BK363.out 0; have hfz34_1 := blk_frozen BK363.out 1))
       (try simp only [Act.put, List.setIfInBounds_toArray, List.set_cons_zero, List.set_cons_succ])
       go_cut [63] (fun v63 wc => ∃ (kq : Nat) (x63_28 : Bool), v63 = .bool x63_28 ∧ Aside0 (bastionlaw14_CspBack.j1 kq a1 a2 t355 x63_28 t349 t352 = some r) ∧ Aside0 (kq ≤ kj8) ∧ Aside0 (Kd.N k35 35 wc w.heap.size (fun k_ => some k_ ≠ ((.slice Ao32 t358.length co32) : Value).ownBlock ∧ k_ ≠ gb354 ∧ k_ ≠ gb363) (.slice Ao13 t349.length co13) t349) ∧ Aside0 (Kd.N k35 35 wc w.heap.size (fun k_ => some k_ ≠ ((.slice Ao13 t349.length co13) : Value).ownBlock ∧ k_ ≠ gb354 ∧ k_ ≠ gb363) (.slice Ao32 t358.length co32) t358) ∧ Aside0 (wc.heap[gb354]? = some (.cells #[(.slice Ao13 t349.length co13), .bool t352] 25 (0, 0))) ∧ Aside0 (wc.heap[gb363]? = some (.cells #[(.slice Ao32 t358.length co32), .bool t361] 25 (0, 0))) ∧ Aside0 (Below w.heap.size w wc))
       case first =>
        have H := HC29.out
        clear HC29
        by_cases c35 : t362 = 0
        ·rw [if_pos c35] at H
         have c35b0 : (t362 == 0) = true := beq_iff_eq.mpr c35
         have c35b1 : (t362 != 0) = false := bne_eq_false_iff_eq.mpr c35
         clear c35
         (first | rw [c35b0] | (simp only [i64_w, i32_w]; rw [c35b0]) | skip)
         replace H := Option.bind_eq_some_iff.mp H
         obtain ⟨t364, A360, H⟩ := H
         replace H : (bastionlaw14_CspBack.j1 kj8 a1 a2 t355 (!t364) t349 t352) = some r := H
         have A36 := Aside0.mk A360
         clear A360
         have H' := Aside0.mk H
         clear H
         have hnb37 := NB354_363.out
         have hnc37 := NB363_354.out
         have hcz38_0 : w31.cell? ⟨gb354, 0, none⟩ = some (.slice Ao13 t349.length co13) := (blk_cell BK354.out 0).trans rfl
         have hcz38_1 : w31.cell? ⟨gb354, 1, none⟩ = some (.bool t352) := (blk_cell BK354.out 1).trans rfl
         have hfz38_0 := blk_frozen BK354.out 0; have hfz38_1 := blk_frozen BK354.out 1
         have hcz39_0 : w31.cell? ⟨gb363, 0, none⟩ = some (.slice none 0 0) := (blk_cell BK363.out 0).trans rfl
         have hcz39_1 : w31.cell? ⟨gb363, 1, none⟩ = some (.bool false) := (blk_cell BK363.out 1).trans rfl
         have hfz39_0 := blk_frozen BK363.out 0; have hfz39_1 := blk_frozen BK363.out 1
         go_wp2_with (first | (go_at_call 14; (with_reducible refine (bastionref14_Same.calls kj8 _ _ t349 t352 _ _ t358 t361 t364 _ ?side1 ?side2 ?side3 ?side4 A36.out).mono ?_); (case side1 => refine (Kd.N_reads' (e := 35) (base := w.heap.size) (ok := fun k_ => ((k_ ≠ gb354 ∧ some k_ ≠ (.slice Ao32 t358.length co32 : Value).ownBlock) ∧ k_ ≠ gb363)) (n := t349.length) (c := co13) ?_).2.2; exact (by (with_reducible repeat (first | apply Kd.N_alloc | apply Kd.N_drewN | apply Kd.N_drew)); exact (Kd.N_mono (Kd.N_far (p := ⟨gb363, 1, none⟩) (Kd.N_far (p := ⟨gb363, 0, none⟩) (Kd.N_mono HO_355000.out (fun k_ hk => (⟨hk, hk.2⟩ : _ ∧ k_ ≠ gb363))) (fun _ hk => hk.2) (.slice Ao32 t358.length co32)) (fun _ hk => hk.2) (.bool t361)) (fun _ h_ => h_.1)))); (case side2 => exact (Kd.N_reads' HO_355000.out).2.1); (case side3 => refine (Kd.N_reads' (e := 35) (base := w.heap.size) (ok := fun k_ => ((some k_ ≠ (.slice Ao13 t349.length co13 : Value).ownBlock ∧ k_ ≠ gb354) ∧ k_ ≠ gb363)) (n := t358.length) (c := co32) ?_).2.2; exact (by (with_reducible repeat (first | apply Kd.N_alloc | apply Kd.N_drewN | apply Kd.N_drew)); exact (Kd.N_mono (Kd.N_far (p := ⟨gb363, 1, none⟩) (Kd.N_far (p := ⟨gb363, 0, none⟩) (Kd.N_mono HO360.out (fun k_ hk => (⟨hk, hk.2⟩ : _ ∧ k_ ≠ gb363))) (fun _ hk => hk.2) (.slice Ao32 t358.length co32)) (fun _ hk => hk.2) (.bool t361)) (fun _ h_ => h_.1)))); (case side4 => exact (Kd.N_reads' HO360.out).2.1); rintro e w40 ⟨rfl, hb⟩; have n0_ := Aside0.mk (Kd.N_below (by (with_reducible repeat (first | apply Kd.N_alloc | apply Kd.N_drewN | apply Kd.N_drew)); exact (Kd.N_mono (Kd.N_far (p := ⟨gb363, 1, none⟩) (Kd.N_far (p := ⟨gb363, 0, none⟩) (Kd.N_mono HO_355000.out (fun k_ hk => (⟨hk, hk.2⟩ : _ ∧ k_ ≠ gb363))) (fun _ hk => hk.2) (.slice Ao32 t358.length co32)) (fun _ hk => hk.2) (.bool t361)) (fun _ h_ => h_.1))) hb); have n1_ := Aside0.mk (Kd.N_below (by (with_reducible repeat (first | apply Kd.N_alloc | apply Kd.N_drewN | apply Kd.N_drew)); exact (Kd.N_mono (Kd.N_far (p := ⟨gb363, 1, none⟩) (Kd.N_far (p := ⟨gb363, 0, none⟩) (Kd.N_mono HO360.out (fun k_ hk => (⟨hk, hk.2⟩ : _ ∧ k_ ≠ gb363))) (fun _ hk => hk.2) (.slice Ao32 t358.length co32)) (fun _ hk => hk.2) (.bool t361)) (fun _ h_ => h_.1))) hb); have n2_ := Aside0.mk (blk_below (g := gb354) (o := .cells #[.slice Ao13 t349.length co13, .bool t352] 25 (0, 0)) (by (with_reducible repeat (first | refine blk_drewN ?_ _ | refine blk_drew ?_ | refine blk_alloc ?_ _)); refine blk_far ?_ NB354_363.out _; (with_reducible repeat (first | refine blk_drewN ?_ _ | refine blk_drew ?_ | refine blk_alloc ?_ _)); refine blk_far ?_ NB354_363.out _; (with_reducible repeat (first | refine blk_drewN ?_ _ | refine blk_drew ?_ | refine blk_alloc ?_ _)); exact BK354.out) hb); have n3_ := Aside0.mk (blk_below (g := gb363) (o := .cells #[.slice Ao32 t358.length co32, .bool t361] 25 (0, 0)) (by (with_reducible repeat (first | refine blk_drewN ?_ _ | refine blk_drew ?_ | refine blk_alloc ?_ _)); refine blk_put (cs := #[.slice Ao32 t358.length co32, .bool false]) ?_ 1 _ rfl; (with_reducible repeat (first | refine blk_drewN ?_ _ | refine blk_drew ?_ | refine blk_alloc ?_ _)); refine blk_put (cs := #[.slice none 0 0, .bool false]) ?_ 0 _ rfl; (with_reducible repeat (first | refine blk_drewN ?_ _ | refine blk_drew ?_ | refine blk_alloc ?_ _)); exact BK363.out) hb); have n4_ := Aside0.mk (below_step (by repeat (first | (with_reducible first | exact HB.out | apply below_alloc | apply pw_below_drewN | apply below_drew1 | refine below_set ?_ GE354.out | refine below_set ?_ GE363.out) | exact HB.out)) hb); clear HO_355000; clear HO360; clear BK354; clear BK363; clear HB; have HO_355000 := n0_; have HO360 := n1_; have BK354 := n2_; have BK363 := n3_; have HB := n4_; clear n0_ n1_ n2_ n3_ n4_; (try clear hb); (try clear hb2); (try clear hk); (try clear hi)))
         go_meet
         case rel => exact ⟨_, (!t364), (by first | rfl | (simp; done) | (simp [*]; done)), H', ⟨by have := HJ8.out; first | omega | exact Nat.le_refl _⟩, ⟨by (with_reducible repeat (first | apply Kd.N_alloc | apply Kd.N_drewN | apply Kd.N_drew)); exact Kd.N_mono HO_355000.out (fun _ hk => ⟨hk.1.2, ⟨hk.1.1, hk.2⟩⟩)⟩, ⟨by (with_reducible repeat (first | apply Kd.N_alloc | apply Kd.N_drewN | apply Kd.N_drew)); exact Kd.N_mono HO360.out (fun _ hk => ⟨hk.1.1, ⟨hk.1.2, hk.2⟩⟩)⟩, ⟨by (with_reducible repeat (first | refine blk_drewN ?_ _ | refine blk_drew ?_ | refine blk_alloc ?_ _)); exact BK354.out⟩, ⟨by (with_reducible repeat (first | refine blk_drewN ?_ _ | refine blk_drew ?_ | refine blk_alloc ?_ _)); exact BK363.out⟩, ⟨by repeat (first | (with_reducible first | exact HB.out | apply below_alloc | apply pw_below_drewN | apply below_drew1 | refine below_set ?_ GE354.out | refine below_set ?_ GE363.out) | exact HB.out)⟩⟩
        ·rw [if_neg c35] at H
         have c35b0 : (t362 == 0) = false := beq_eq_false_iff_ne.mpr c35
         have c35b1 : (t362 != 0) = true := bne_iff_ne.mpr c35
         (first | rw [c35b0] | (simp only [i64_w, i32_w]; rw [c35b0]) | skip)
         have H' := Aside0.mk H
         clear H
         go_wp2
         go_meet
         case rel => exact ⟨_, (true), (by first | rfl | (simp; done) | (simp [*]; done)), H', ⟨by have := HJ8.out; first | omega | exact Nat.le_refl _⟩, ⟨by (with_reducible repeat (first | apply Kd.N_alloc | apply Kd.N_drewN | apply Kd.N_drew)); exact Kd.N_mono (Kd.N_far (p := ⟨gb363, 1, none⟩) (Kd.N_far (p := ⟨gb363, 0, none⟩) (Kd.N_mono HO_355000.out (fun k_ hk => (⟨hk, hk.2⟩ : _ ∧ k_ ≠ gb363))) (fun _ hk => hk.2) (.slice Ao32 t358.length co32)) (fun _ hk => hk.2) (.bool t361)) (fun _ hk => ⟨hk.1.1.2, ⟨hk.1.1.1, hk.1.2⟩⟩)⟩, ⟨by (with_reducible repeat (first | apply Kd.N_alloc | apply Kd.N_drewN | apply Kd.N_drew)); exact Kd.N_mono (Kd.N_far (p := ⟨gb363, 1, none⟩) (Kd.N_far (p := ⟨gb363, 0, none⟩) (Kd.N_mono HO360.out (fun k_ hk => (⟨hk, hk.2⟩ : _ ∧ k_ ≠ gb363))) (fun _ hk => hk.2) (.slice Ao32 t358.length co32)) (fun _ hk => hk.2) (.bool t361)) (fun _ hk => ⟨hk.1.1.1, ⟨hk.1.1.2, hk.1.2⟩⟩)⟩, ⟨by (with_reducible repeat (first | refine blk_drewN ?_ _ | refine blk_drew ?_ | refine blk_alloc ?_ _)); refine blk_far ?_ NB354_363.out _; (with_reducible repeat (first | refine blk_drewN ?_ _ | refine blk_drew ?_ | refine blk_alloc ?_ _)); refine blk_far ?_ NB354_363.out _; (with_reducible repeat (first | refine blk_drewN ?_ _ | refine blk_drew ?_ | refine blk_alloc ?_ _)); exact BK354.out⟩, ⟨by (with_reducible repeat (first | refine blk_drewN ?_ _ | refine blk_drew ?_ | refine blk_alloc ?_ _)); refine blk_put (cs := #[.slice Ao32 t358.length co32, .bool false]) ?_ 1 _ rfl; (with_reducible repeat (first | refine blk_drewN ?_ _ | refine blk_drew ?_ | refine blk_alloc ?_ _)); refine blk_put (cs := #[.slice none 0 0, .bool false]) ?_ 0 _ rfl; (with_reducible repeat (first | refine blk_drewN ?_ _ | refine blk_drew ?_ | refine blk_alloc ?_ _)); exact BK363.out⟩, ⟨by repeat (first | (with_reducible first | exact HB.out | apply below_alloc | apply pw_below_drewN | apply below_drew1 | refine below_set ?_ GE354.out | refine below_set ?_ GE363.out) | exact HB.out)⟩⟩
       case rest =>
        clear HC29
        (try clear c1); (try clear c2); (try clear p2); (try clear c3); (try clear c5); (try clear c7); (try clear c7b0); (try clear c7b1); (try clear c10); (try clear c11); (try clear c12); (try clear c13); (try clear c17); (try clear c17b0); (try clear c17b1); (try clear c18); (try clear c18b0); (try clear c18b1); (try clear c26); (try clear c27); (try clear c27b0); (try clear c27b1); (try clear c33); (try clear c35); (try clear c35b0); (try clear c35b1); (try clear c37); (try clear hcz14_0); (try clear hcz14_1); (try clear hcz19_0); (try clear hcz19_1); (try clear hcz21_0); (try clear hcz21_1); (try clear hcz22_0); (try clear hcz22_1); (try clear hcz24_0); (try clear hcz24_1); (try clear hcz34_0); (try clear hcz34_1); (try clear hcz38_0); (try clear hcz38_1); (try clear hcz39_0); (try clear hcz39_1); (try clear hfz14_0); (try clear hfz14_1); (try clear hfz19_0); (try clear hfz19_1); (try clear hfz21_0); (try clear hfz21_1); (try clear hfz22_0); (try clear hfz22_1); (try clear hfz24_0); (try clear hfz24_1); (try clear hfz34_0); (try clear hfz34_1); (try clear hfz38_0); (try clear hfz38_1); (try clear hfz39_0); (try clear hfz39_1); (try clear p2)
        obtain ⟨kq, x63_28, rfl, HA, HJ28, HO_355000, HO_364000, BK354, BK363, HB⟩ := hcut
        cases kq with
        | zero => exact absurd HA.out (by simp [bastionlaw14_CspBack.j1])
        | succ kj28 =>
         have H := HA.out
         clear HA
         simp only [bastionlaw14_CspBack.j1] at H
         by_cases c41 : x63_28 = true
         ·subst c41
          have H1 : (some false) = some r := by rw [if_pos rfl] at H; exact H
          clear H
          have H := H1
          clear H1
          obtain rfl := Option.some.inj H
          go_wp2
          go_ret
          exact ⟨by first | rfl | (simp [errW_none, errW_some] <;> rfl) | (simp [*, errW_none, errW_some] <;> rfl), by repeat (first | (with_reducible first | exact HB.out | apply below_alloc | apply pw_below_drewN | apply below_drew1 | refine below_set ?_ GE354.out | refine below_set ?_ GE363.out) | exact HB.out)⟩
         ·replace c41 := Bool.eq_false_iff.mpr c41
          subst c41
          have H1 : (bastionlaw14_CspBack.l0 kj28 a1 a2 t355 0 t349 t352) = some r := by rw [if_neg (show ¬ (false = true) by decide)] at H; exact H
          clear H
          have H := H1
          clear H1
          have H' := Aside0.mk H
          clear H
          go_wp2
          go_loopg [13] kj28 (fun kq v13 w' => ∃ (x13_3 : Int), v13 = .int .i64 x13_3 ∧ Aside0 (bastionlaw14_CspBack.l0 kq a1 a2 t355 x13_3 t349 t352 = some r) ∧ Aside0 (kq ≤ kj28) ∧ Aside0 (Kd.N k35 35 w' w.heap.size (fun k_ => some k_ ≠ ((.slice Ao32 t358.length co32) : Value).ownBlock ∧ k_ ≠ gb354 ∧ k_ ≠ gb363) (.slice Ao13 t349.length co13) t349) ∧ Aside0 (Kd.N k35 35 w' w.heap.size (fun k_ => some k_ ≠ ((.slice Ao13 t349.length co13) : Value).ownBlock ∧ k_ ≠ gb354 ∧ k_ ≠ gb363) (.slice Ao32 t358.length co32) t358) ∧ Aside0 (w'.heap[gb354]? = some (.cells #[(.slice Ao13 t349.length co13), .bool t352] 25 (0, 0))) ∧ Aside0 (w'.heap[gb363]? = some (.cells #[(.slice Ao32 t358.length co32), .bool t361] 25 (0, 0))) ∧ Aside0 (Below w.heap.size w w'))
          case atStart => exact ⟨(0), (by first | rfl | (simp; done) | (simp [*]; done)), H', ⟨Nat.le_refl _⟩, ⟨by (with_reducible repeat (first | apply Kd.N_alloc | apply Kd.N_drewN | apply Kd.N_drew)); exact HO_355000.out⟩, ⟨by (with_reducible repeat (first | apply Kd.N_alloc | apply Kd.N_drewN | apply Kd.N_drew)); exact HO_364000.out⟩, ⟨by (with_reducible repeat (first | refine blk_drewN ?_ _ | refine blk_drew ?_ | refine blk_alloc ?_ _)); exact BK354.out⟩, ⟨by (with_reducible repeat (first | refine blk_drewN ?_ _ | refine blk_drew ?_ | refine blk_alloc ?_ _)); exact BK363.out⟩, ⟨by repeat (first | (with_reducible first | exact HB.out | apply below_alloc | apply pw_below_drewN | apply below_drew1 | refine below_set ?_ GE354.out | refine below_set ?_ GE363.out) | exact HB.out)⟩⟩
          case round =>
           clear H'
           (try clear c1); (try clear c2); (try clear p2); (try clear c3); (try clear c4); (try clear c5); (try clear c7); (try clear c7b0); (try clear c7b1); (try clear c10); (try clear c11); (try clear c12); (try clear c13); (try clear c17); (try clear c17b0); (try clear c17b1); (try clear c18); (try clear c18b0); (try clear c18b1); (try clear c26); (try clear c27); (try clear c27b0); (try clear c27b1); (try clear c33); (try clear c35); (try clear c35b0); (try clear c35b1); (try clear c37); (try clear c41); (try clear hcz14_0); (try clear hcz14_1); (try clear hcz19_0); (try clear hcz19_1); (try clear hcz21_0); (try clear hcz21_1); (try clear hcz22_0); (try clear hcz22_1); (try clear hcz24_0); (try clear hcz24_1); (try clear hcz34_0); (try clear hcz34_1); (try clear hcz38_0); (try clear hcz38_1); (try clear hcz39_0); (try clear hcz39_1); (try clear hfz14_0); (try clear hfz14_1); (try clear hfz19_0); (try clear hfz19_1); (try clear hfz21_0); (try clear hfz21_1); (try clear hfz22_0); (try clear hfz22_1); (try clear hfz24_0); (try clear hfz24_1); (try clear hfz34_0); (try clear hfz34_1); (try clear hfz38_0); (try clear hfz38_1); (try clear hfz39_0); (try clear hfz39_1); (try clear p2)
           obtain ⟨x13_3, rfl, HA, HK3, HO_355000, HO_364000, BK354, BK363, HB⟩ := hrel
           cases gk with
           | zero => exact absurd HA.out (by simp [bastionlaw14_CspBack.l0])
           | succ k3 =>
            have H := HA.out
            clear HA
            simp only [bastionlaw14_CspBack.l0] at H
            by_cases c42 : x13_3 < (a2.size : Int)
            ·rw [if_pos c42] at H
             have c42b0 : decide (x13_3 < (a2.size : Int)) = true := decide_eq_true c42
             clear c42
             by_cases c43 : 0 ≤ x13_3
             ·rw [if_pos c43] at H
              have c43b0 : decide (0 ≤ x13_3) = true := decide_eq_true c43
              clear c43
              by_cases c45 : (bt a2 x13_3) = 59
              ·rw [if_pos c45] at H
               have c45b0 : ((bt a2 x13_3) == 59) = true := beq_iff_eq.mpr c45
               have c45b1 : ((bt a2 x13_3) != 59) = false := bne_eq_false_iff_eq.mpr c45
               clear c45
               obtain rfl := Option.some.inj H
               have p44 : 0 ≤ (x13_3 : Int) := of_decide_eq_true (by first | (with_reducible assumption) | assumption)
               have q44 : x13_3 < (a2.size : Int) := of_decide_eq_true (by first | (with_reducible assumption) | assumption)
               have hx44 := bt_at a2 x13_3
               replace p44 := eq_true p44
               replace q44 := eq_true q44
               go_wp2
               go_ret
               exact ⟨by first | rfl | (simp [errW_none, errW_some] <;> rfl) | (simp [*, errW_none, errW_some] <;> rfl), by repeat (first | (with_reducible first | exact HB.out | apply below_alloc | apply pw_below_drewN | apply below_drew1 | refine below_set ?_ GE354.out | refine below_set ?_ GE363.out) | exact HB.out)⟩
              ·rw [if_neg c45] at H
               have c45b0 : ((bt a2 x13_3) == 59) = false := beq_eq_false_iff_ne.mpr c45
               have c45b1 : ((bt a2 x13_3) != 59) = true := bne_iff_ne.mpr c45
               by_cases c46 : (t349.length : Int) = 0
               ·rw [if_pos c46] at H
                have c46b0 : ((t349.length : Int) == 0) = true := beq_iff_eq.mpr c46
                have c46b1 : ((t349.length : Int) != 0) = false := bne_eq_false_iff_eq.mpr c46
                clear c46
                obtain rfl := Option.some.inj H
                have p44 : 0 ≤ (x13_3 : Int) := of_decide_eq_true (by first | (with_reducible assumption) | assumption)
                have q44 : x13_3 < (a2.size : Int) := of_decide_eq_true (by first | (with_reducible assumption) | assumption)
                have hx44 := bt_at a2 x13_3
                replace p44 := eq_true p44
                replace q44 := eq_true q44
                have hnb47 := NB354_363.out
                have hnc47 := NB363_354.out
                have hcz48_0 : wr.cell? ⟨gb354, 0, none⟩ = some (.slice Ao13 t349.length co13) := (blk_cell BK354.out 0).trans rfl
                have hcz48_1 : wr.cell? ⟨gb354, 1, none⟩ = some (.bool t352) := (blk_cell BK354.out 1).trans rfl
                have hfz48_0 := blk_frozen BK354.out 0; have hfz48_1 := blk_frozen BK354.out 1
                go_wp2
                go_ret
                exact ⟨by first | rfl | (simp [errW_none, errW_some] <;> rfl) | (simp [*, errW_none, errW_some] <;> rfl), by repeat (first | (with_reducible first | exact HB.out | apply below_alloc | apply pw_below_drewN | apply below_drew1 | refine below_set ?_ GE354.out | refine below_set ?_ GE363.out) | exact HB.out)⟩
               ·rw [if_neg c46] at H
                have c46b0 : ((t349.length : Int) == 0) = false := beq_eq_false_iff_ne.mpr c46
                have c46b1 : ((t349.length : Int) != 0) = true := bne_iff_ne.mpr c46
                have c46b2 : ¬ (t349 = []) := fun h_ => c46 (by rw [h_]; rfl)
                have H' := Aside0.mk H
                clear H
                have p44 : 0 ≤ (x13_3 : Int) := of_decide_eq_true (by first | (with_reducible assumption) | assumption)
                have q44 : x13_3 < (a2.size : Int) := of_decide_eq_true (by first | (with_reducible assumption) | assumption)
                have hx44 := bt_at a2 x13_3
                replace p44 := eq_true p44
                replace q44 := eq_true q44
                have hnb49 := NB354_363.out
                have hnc49 := NB363_354.out
                have hcz50_0 : wr.cell? ⟨gb354, 0, none⟩ = some (.slice Ao13 t349.length co13) := (blk_cell BK354.out 0).trans rfl
                have hcz50_1 : wr.cell? ⟨gb354, 1, none⟩ = some (.bool t352) := (blk_cell BK354.out 1).trans rfl
                have hfz50_0 := blk_frozen BK354.out 0; have hfz50_1 := blk_frozen BK354.out 1
                go_wp2
                go_roundg k3
                case measure => have := HJ8.out; have := HJ28.out; have := HK3.out; omega
                case rel => exact ⟨(wrap64 (x13_3 + 1)), (by first | rfl | (simp; done) | (simp [*]; done)), H', ⟨by have := HJ8.out; have := HJ28.out; have := HK3.out; omega⟩, ⟨by (with_reducible repeat (first | apply Kd.N_alloc | apply Kd.N_drewN | apply Kd.N_drew)); exact HO_355000.out⟩, ⟨by (with_reducible repeat (first | apply Kd.N_alloc | apply Kd.N_drewN | apply Kd.N_drew)); exact HO_364000.out⟩, ⟨by (with_reducible repeat (first | refine blk_drewN ?_ _ | refine blk_drew ?_ | refine blk_alloc ?_ _)); exact BK354.out⟩, ⟨by (with_reducible repeat (first | refine blk_drewN ?_ _ | refine blk_drew ?_ | refine blk_alloc ?_ _)); exact BK363.out⟩, ⟨by repeat (first | (with_reducible first | exact HB.out | apply below_alloc | apply pw_below_drewN | apply below_drew1 | refine below_set ?_ GE354.out | refine below_set ?_ GE363.out) | exact HB.out)⟩⟩
             ·rw [if_neg c43] at H
              exact absurd H (by simp)
            ·rw [if_neg c42] at H
             have c42b0 : decide (x13_3 < (a2.size : Int)) = false := decide_eq_false c42
             clear c42
             by_cases c51 : (t349.length : Int) = 0
             ·rw [if_pos c51] at H
              have c51b0 : ((t349.length : Int) == 0) = true := beq_iff_eq.mpr c51
              have c51b1 : ((t349.length : Int) != 0) = false := bne_eq_false_iff_eq.mpr c51
              clear c51
              obtain rfl := Option.some.inj H
              have hnb52 := NB354_363.out
              have hnc52 := NB363_354.out
              have hcz53_0 : wr.cell? ⟨gb354, 0, none⟩ = some (.slice Ao13 t349.length co13) := (blk_cell BK354.out 0).trans rfl
              have hcz53_1 : wr.cell? ⟨gb354, 1, none⟩ = some (.bool t352) := (blk_cell BK354.out 1).trans rfl
              have hfz53_0 := blk_frozen BK354.out 0; have hfz53_1 := blk_frozen BK354.out 1
              go_wp2
              go_ret
              exact ⟨by first | rfl | (simp [errW_none, errW_some] <;> rfl) | (simp [*, errW_none, errW_some] <;> rfl), by repeat (first | (with_reducible first | exact HB.out | apply below_alloc | apply pw_below_drewN | apply below_drew1 | refine below_set ?_ GE354.out | refine below_set ?_ GE363.out) | exact HB.out)⟩
             ·rw [if_neg c51] at H
              have c51b0 : ((t349.length : Int) == 0) = false := beq_eq_false_iff_ne.mpr c51
              have c51b1 : ((t349.length : Int) != 0) = true := bne_iff_ne.mpr c51
              have c51b2 : ¬ (t349 = []) := fun h_ => c51 (by rw [h_]; rfl)
              by_cases c54 : t355.size + 2 ≤ 9223372036854775807
              ·rw [if_pos c54] at H
               have c54b0 := eq_true c54
               have c54b1 : decide (t355.size + 2 ≤ 9223372036854775807) = true := decide_eq_true c54
               try have c54b2 : (9223372036854775807 < t355.size + 2) = False := eq_false (Nat.not_lt.2 c54)
               by_cases c55 : 0 < (t349.length : Int)
               ·rw [if_pos c55] at H
                have c55b0 : decide (0 < (t349.length : Int)) = true := decide_eq_true c55
                have c55b1 : decide (0 < t349.length) = true := decide_eq_true (by omega)
                clear c55
                by_cases c56 : (t355 ++ (⟨#[59, 32]⟩ : ByteArray)).size + ((rd_T35 t349 0).f0).size ≤ 9223372036854775807
                ·rw [if_pos c56] at H
                 have c56b0 := eq_true c56
                 have c56b1 : decide ((t355 ++ (⟨#[59, 32]⟩ : ByteArray)).size + ((rd_T35 t349 0).f0).size ≤ 9223372036854775807) = true := decide_eq_true c56
                 try have c56b2 : (9223372036854775807 < (t355 ++ (⟨#[59, 32]⟩ : ByteArray)).size + ((rd_T35 t349 0).f0).size) = False := eq_false (Nat.not_lt.2 c56)
                 try (have c56b3 := c56b2; simp only [ByteArray.size_append, show (⟨#[59, 32]⟩ : ByteArray).size = 2 from rfl] at c56b3)
                 by_cases c57 : ((t355 ++ (⟨#[59, 32]⟩ : ByteArray)) ++ ((rd_T35 t349 0).f0)).size + 1 ≤ 9223372036854775807
                 ·rw [if_pos c57] at H
                  have c57b0 := eq_true c57
                  have c57b1 : decide (((t355 ++ (⟨#[59, 32]⟩ : ByteArray)) ++ ((rd_T35 t349 0).f0)).size + 1 ≤ 9223372036854775807) = true := decide_eq_true c57
                  try have c57b2 : (9223372036854775807 < ((t355 ++ (⟨#[59, 32]⟩ : ByteArray)) ++ ((rd_T35 t349 0).f0)).size + 1) = False := eq_false (Nat.not_lt.2 c57)
                  try (have c57b3 := c57b2; simp only [ByteArray.size_append, show (⟨#[59, 32]⟩ : ByteArray).size = 2 from rfl] at c57b3)
                  by_cases c58 : (((t355 ++ (⟨#[59, 32]⟩ : ByteArray)) ++ ((rd_T35 t349 0).f0)) ++ (⟨#[32]⟩ : ByteArray)).size + a2.size ≤ 9223372036854775807
                  ·rw [if_pos c58] at H
                   have c58b0 := eq_true c58
                   have c58b1 : decide ((((t355 ++ (⟨#[59, 32]⟩ : ByteArray)) ++ ((rd_T35 t349 0).f0)) ++ (⟨#[32]⟩ : ByteArray)).size + a2.size ≤ 9223372036854775807) = true := decide_eq_true c58
                   try have c58b2 : (9223372036854775807 < (((t355 ++ (⟨#[59, 32]⟩ : ByteArray)) ++ ((rd_T35 t349 0).f0)) ++ (⟨#[32]⟩ : ByteArray)).size + a2.size) = False := eq_false (Nat.not_lt.2 c58)
                   try (have c58b3 := c58b2; simp only [ByteArray.size_append, show (⟨#[32]⟩ : ByteArray).size = 1 from rfl, show (⟨#[59, 32]⟩ : ByteArray).size = 2 from rfl] at c58b3)
                   by_cases c59 : (((((t355 ++ (⟨#[59, 32]⟩ : ByteArray)) ++ ((rd_T35 t349 0).f0)) ++ (⟨#[32]⟩ : ByteArray)) ++ a2).size : Int) > 4096
                   ·rw [if_pos c59] at H
                    have c59b0 : decide (4096 < (((((t355 ++ (⟨#[59, 32]⟩ : ByteArray)) ++ ((rd_T35 t349 0).f0)) ++ (⟨#[32]⟩ : ByteArray)) ++ a2).size : Int)) = true := decide_eq_true c59
                    try (have c59b4 := c59b0; simp only [ByteArray.size_append, show (⟨#[32]⟩ : ByteArray).size = 1 from rfl, show (⟨#[59, 32]⟩ : ByteArray).size = 2 from rfl] at c59b4; (try simp only [Int.natCast_add, Int.cast_ofNat_Int, Int.natCast_one] at c59b4))
                    have c59b1 : decide (4096 < ((((t355 ++ (⟨#[59, 32]⟩ : ByteArray)) ++ ((rd_T35 t349 0).f0)) ++ (⟨#[32]⟩ : ByteArray)) ++ a2).size) = true := decide_eq_true (by omega)
                    clear c59
                    obtain rfl := Option.some.inj H
                    have hnb60 := NB354_363.out
                    have hnc60 := NB363_354.out
                    have hcz61_0 : wr.cell? ⟨gb354, 0, none⟩ = some (.slice Ao13 t349.length co13) := (blk_cell BK354.out 0).trans rfl
                    have hcz61_1 : wr.cell? ⟨gb354, 1, none⟩ = some (.bool t352) := (blk_cell BK354.out 1).trans rfl
                    have hfz61_0 := blk_frozen BK354.out 0; have hfz61_1 := blk_frozen BK354.out 1
                    have p365 : 0 ≤ (0 : Int) := (by omega)
                    have q365 : 0 < (t349.length : Int) := of_decide_eq_true (by first | (with_reducible assumption) | assumption)
                    obtain ⟨ad365, A365_1, c365_1, e365, hx365_0, hx365_1, hl365_1, hi365_1⟩ := at_T35 (Kd.N_reads' HO_355000.out).2.2 0 p365 q365
                    cases e365
                    obtain ⟨ce365, hce365, hMe365, hcc365⟩ := Kd.N_get HO_355000.out z35 0 p365 (by first | exact q365 | exact of_decide_eq_true (by first | (with_reducible assumption) | assumption) | (have e_ := (Kd.N_reads' HO_355000.out).1; omega))
                    obtain ⟨ua365_1, uc365_1, rfl, ul365_1, ge365_1⟩ := k35_openF hMe365
                    have hv365_1 := hcc365 1 _ rfl
                    rw [add_field _ _ 1 (by omega)] at hv365_1
                    replace hv365_1 := Option.some.inj (hv365_1.symm.trans hx365_1)
                    injection hv365_1 with hva_ hvn_ hvc_
                    rw [hva_] at ge365_1
                    rw [hvc_] at ul365_1
                    have HL365_1 := Aside0.mk (show Kd.V Kd.string 9 _ w.heap.size _ _ ((rd_T35 t349 0).f1) from Kd.V_mk ul365_1 ge365_1)
                    clear hva_ hvn_ hvc_ ge365_1 ul365_1
                    clear hcc365 hce365
                    have qi365 : (0 < t349.length) = True := eq_true (by omega)
                    (try rw [show ((0 : Int)).toNat = 0 from rfl] at hx365_0)
                    (try rw [show 0 * 2 = 0 from rfl] at hx365_0)
                    (try rw [Addr.add_zero'] at hx365_0)
                    (try rw [show ((0 : Int)).toNat = 0 from rfl] at hx365_1)
                    (try rw [show 0 * 2 = 0 from rfl] at hx365_1)
                    (try rw [Addr.add_zero'] at hx365_1)
                    have HR365_1 := Aside0.mk hi365_1
                    have HC365_1 := Aside0.mk hl365_1
                    clear hi365_1 hl365_1
                    replace p365 := eq_true p365
                    replace q365 := eq_true q365
                    go_wp2
                    go_ret
                    exact ⟨by first | rfl | (simp [errW_none, errW_some] <;> rfl) | (simp [*, errW_none, errW_some] <;> rfl), by repeat (first | (with_reducible first | exact HB.out | apply below_alloc | apply pw_below_drewN | apply below_drew1 | refine below_set ?_ GE354.out | refine below_set ?_ GE363.out) | exact HB.out)⟩
                   ·rw [if_neg c59] at H
                    have c59b0 : decide (4096 < (((((t355 ++ (⟨#[59, 32]⟩ : ByteArray)) ++ ((rd_T35 t349 0).f0)) ++ (⟨#[32]⟩ : ByteArray)) ++ a2).size : Int)) = false := decide_eq_false c59
                    try (have c59b4 := c59b0; simp only [ByteArray.size_append, show (⟨#[32]⟩ : ByteArray).size = 1 from rfl, show (⟨#[59, 32]⟩ : ByteArray).size = 2 from rfl] at c59b4; (try simp only [Int.natCast_add, Int.cast_ofNat_Int, Int.natCast_one] at c59b4))
                    have c59b1 : decide (4096 < ((((t355 ++ (⟨#[59, 32]⟩ : ByteArray)) ++ ((rd_T35 t349 0).f0)) ++ (⟨#[32]⟩ : ByteArray)) ++ a2).size) = false := decide_eq_false (by omega)
                    clear c59
                    replace H := Option.bind_eq_some_iff.mp H
                    obtain ⟨⟨t366, t369, t370⟩, A620, H⟩ := H
                    replace H : (if t370 = 0 then ((bastionref14_Same.f k3 t349 t352 t366 t369).bind fun t371 => (some t371)) else (some false)) = some r := H
                    have A62 := Aside0.mk A620
                    clear A620
                    by_cases c63 : t370 = 0
                    ·rw [if_pos c63] at H
                     have c63b0 : (t370 == 0) = true := beq_iff_eq.mpr c63
                     have c63b1 : (t370 != 0) = false := bne_eq_false_iff_eq.mpr c63
                     clear c63
                     replace H := Option.bind_eq_some_iff.mp H
                     obtain ⟨t371, A640, H⟩ := H
                     replace H : (some t371) = some r := H
                     have A64 := Aside0.mk A640
                     clear A640
                     obtain rfl := Option.some.inj H
                     have hnb65 := NB354_363.out
                     have hnc65 := NB363_354.out
                     have hcz66_0 : wr.cell? ⟨gb354, 0, none⟩ = some (.slice Ao13 t349.length co13) := (blk_cell BK354.out 0).trans rfl
                     have hcz66_1 : wr.cell? ⟨gb354, 1, none⟩ = some (.bool t352) := (blk_cell BK354.out 1).trans rfl
                     have hfz66_0 := blk_frozen BK354.out 0; have hfz66_1 := blk_frozen BK354.out 1
                     have p365 : 0 ≤ (0 : Int) := (by omega)
                     have q365 : 0 < (t349.length : Int) := of_decide_eq_true (by first | (with_reducible assumption) | assumption)
                     obtain ⟨ad365, A365_1, c365_1, e365, hx365_0, hx365_1, hl365_1, hi365_1⟩ := at_T35 (Kd.N_reads' HO_355000.out).2.2 0 p365 q365
                     cases e365
                     obtain ⟨ce365, hce365, hMe365, hcc365⟩ := Kd.N_get HO_355000.out z35 0 p365 (by first | exact q365 | exact of_decide_eq_true (by first | (with_reducible assumption) | assumption) | (have e_ := (Kd.N_reads' HO_355000.out).1; omega))
                     obtain ⟨ua365_1, uc365_1, rfl, ul365_1, ge365_1⟩ := k35_openF hMe365
                     have hv365_1 := hcc365 1 _ rfl
                     rw [add_field _ _ 1 (by omega)] at hv365_1
                     replace hv365_1 := Option.some.inj (hv365_1.symm.trans hx365_1)
                     injection hv365_1 with hva_ hvn_ hvc_
                     rw [hva_] at ge365_1
                     rw [hvc_] at ul365_1
                     have HL365_1 := Aside0.mk (show Kd.V Kd.string 9 _ w.heap.size _ _ ((rd_T35 t349 0).f1) from Kd.V_mk ul365_1 ge365_1)
                     clear hva_ hvn_ hvc_ ge365_1 ul365_1
                     clear hcc365 hce365
                     have qi365 : (0 < t349.length) = True := eq_true (by omega)
                     (try rw [show ((0 : Int)).toNat = 0 from rfl] at hx365_0)
                     (try rw [show 0 * 2 = 0 from rfl] at hx365_0)
                     (try rw [Addr.add_zero'] at hx365_0)
                     (try rw [show ((0 : Int)).toNat = 0 from rfl] at hx365_1)
                     (try rw [show 0 * 2 = 0 from rfl] at hx365_1)
                     (try rw [Addr.add_zero'] at hx365_1)
                     have HR365_1 := Aside0.mk hi365_1
                     have HC365_1 := Aside0.mk hl365_1
                     clear hi365_1 hl365_1
                     replace p365 := eq_true p365
                     replace q365 := eq_true q365
                     go_wp2_with (first | ((with_reducible refine gate_callee (f := 11) rfl ?_); refine goesL_ (some 101) rfl rfl Tryz.func11 (by kernel_rfl) rfl #[.string ((((t355 ++ (⟨#[59, 32]⟩ : ByteArray)) ++ ((rd_T35 t349 0).f0)) ++ (⟨#[32]⟩ : ByteArray)) ++ a2), .bool a1] rfl (by (try simp only [List.map_toArray, List.map_cons, List.map_nil]); first | done | rfl | (simp only [List.length_drop, List.length_take]; rfl)) ?_; (with_reducible refine (csp_Parse.calls ((((t355 ++ (⟨#[59, 32]⟩ : ByteArray)) ++ ((rd_T35 t349 0).f0)) ++ (⟨#[32]⟩ : ByteArray)) ++ a2) a1 t366 t369 t370 _ A62.out).mono ?_); rintro e w67 ⟨v367, rfl, ho0, hb⟩; refine ⟨_, rfl, ?_⟩; have n0_ := Aside0.mk (Kd.N_elder' (by (with_reducible repeat (first | apply Kd.N_alloc | apply Kd.N_drewN | apply Kd.N_drew)); exact HO_355000.out) (Kd.N_base ho0) hb); have n1_ := Aside0.mk (Kd.N_elder' (by (with_reducible repeat (first | apply Kd.N_alloc | apply Kd.N_drewN | apply Kd.N_drew)); exact HO_364000.out) (Kd.N_base ho0) hb); have n2_ := Aside0.mk (Kd.V_elder' (by (with_reducible repeat (first | apply Kd.V_alloc | apply Kd.V_drewN | apply Kd.V_drew)); exact HL365_1.out) (Kd.N_base ho0) hb); have n3_ := Aside0.mk (Kd.N_lower (Kd.N_mono (ok' := fun k_ => some k_ ≠ (.slice (some ad365) t349.length co13 : Value).ownBlock ∧ some k_ ≠ (.slice Ao32 t358.length co32 : Value).ownBlock ∧ k_ ≠ gb354 ∧ k_ ≠ gb363) ho0 (fun k_ hk_ => ⟨(Kd.fresh' (Kd.N_lt (by (with_reducible repeat (first | apply Kd.N_alloc | apply Kd.N_drewN | apply Kd.N_drew)); exact HO_355000.out)) k_ hk_), (Kd.fresh' (Kd.N_lt (by (with_reducible repeat (first | apply Kd.N_alloc | apply Kd.N_drewN | apply Kd.N_drew)); exact HO_364000.out)) k_ hk_), (Kd.freshB (g := gb354) (o := .cells #[.slice (some ad365) t349.length co13, .bool t352] 25 (0, 0)) (by (with_reducible repeat (first | refine blk_drewN ?_ _ | refine blk_drew ?_ | refine blk_alloc ?_ _)); exact BK354.out) k_ hk_), (Kd.freshB (g := gb363) (o := .cells #[.slice Ao32 t358.length co32, .bool t361] 25 (0, 0)) (by (with_reducible repeat (first | refine blk_drewN ?_ _ | refine blk_drew ?_ | refine blk_alloc ?_ _)); exact BK363.out) k_ hk_)⟩)) (below_size (by repeat (first | (with_reducible first | exact HB.out | apply below_alloc | apply pw_below_drewN | apply below_drew1 | refine below_set ?_ GE354.out | refine below_set ?_ GE363.out) | exact HB.out)))); have n4_ := Aside0.mk (blk_below (g := gb354) (o := .cells #[.slice (some ad365) t349.length co13, .bool t352] 25 (0, 0)) (by (with_reducible repeat (first | refine blk_drewN ?_ _ | refine blk_drew ?_ | refine blk_alloc ?_ _)); exact BK354.out) hb); have n5_ := Aside0.mk (blk_below (g := gb363) (o := .cells #[.slice Ao32 t358.length co32, .bool t361] 25 (0, 0)) (by (with_reducible repeat (first | refine blk_drewN ?_ _ | refine blk_drew ?_ | refine blk_alloc ?_ _)); exact BK363.out) hb); have n6_ := Aside0.mk (Kd.C_below (by repeat (first | (with_reducible exact HR365_1.out) | (with_reducible refine Kd.C_alloc ?_ _) | (with_reducible refine Kd.C_drewN ?_ _) | (with_reducible refine Kd.C_drew ?_) | exact HR365_1.out)) hb); have n7_ := Aside0.mk (below_step (by repeat (first | (with_reducible first | exact HB.out | apply below_alloc | apply pw_below_drewN | apply below_drew1 | refine below_set ?_ GE354.out | refine below_set ?_ GE363.out) | exact HB.out)) hb); clear HO_355000; clear HO_364000; clear HL365_1; clear BK354; clear BK363; clear HR365_1; clear HB; have HO_355000 := n0_; have HO_364000 := n1_; have HL365_1 := n2_; have HO368 := n3_; have BK354 := n4_; have BK363 := n5_; have HR365_1 := n6_; have HB := n7_; clear n0_ n1_ n2_ n3_ n4_ n5_ n6_ n7_; (try clear hb); (try clear hb2); (try clear hk); (try clear hi); (try clear ho0); obtain ⟨Ao68, co68, eo68⟩ := Kd.N_slice HO368.out; subst eo68; have hcz69_0 : w67.cell? ⟨gb363, 0, none⟩ = some (.slice Ao32 t358.length co32) := (blk_cell BK363.out 0).trans rfl; have hcz69_1 : w67.cell? ⟨gb363, 1, none⟩ = some (.bool t361) := (blk_cell BK363.out 1).trans rfl; have hfz69_0 := blk_frozen BK363.out 0; have hfz69_1 := blk_frozen BK363.out 1; have hcz70_0 : w67.cell? ⟨gb354, 0, none⟩ = some (.slice (some ad365) t349.length co13) := (blk_cell BK354.out 0).trans rfl; have hcz70_1 : w67.cell? ⟨gb354, 1, none⟩ = some (.bool t352) := (blk_cell BK354.out 1).trans rfl; have hfz70_0 := blk_frozen BK354.out 0; have hfz70_1 := blk_frozen BK354.out 1) | (go_at_call 14; (with_reducible refine (bastionref14_Same.calls k3 _ _ t349 t352 _ _ t366 t369 t371 _ ?side1 ?side2 ?side3 ?side4 A64.out).mono ?_); (case side1 => refine (Kd.N_reads' (e := 35) (base := w.heap.size) (ok := fun k_ => ((some k_ ≠ (.slice Ao32 t358.length co32 : Value).ownBlock ∧ (k_ ≠ gb354 ∧ k_ ≠ gb363)) ∧ some k_ ≠ (.slice Ao68 t366.length co68 : Value).ownBlock)) (n := t349.length) (c := co13) ?_).2.2; exact (by (with_reducible repeat (first | apply Kd.N_alloc | apply Kd.N_drewN | apply Kd.N_drew)); exact (Kd.N_mono (Kd.N_far (p := ⟨gb363, 1, none⟩) (Kd.N_far (p := ⟨gb363, 0, none⟩) (Kd.N_mono HO_355000.out (fun k_ hk => (⟨hk, hk.1.2.2⟩ : _ ∧ k_ ≠ gb363))) (fun _ hk => hk.2) (.slice Ao68 t366.length co68)) (fun _ hk => hk.2) (.bool t369)) (fun _ h_ => h_.1)))); (case side2 => exact (Kd.N_reads' HO_355000.out).2.1); (case side3 => refine (Kd.N_reads' (e := 35) (base := w.heap.size) (ok := fun k_ => (some k_ ≠ (.slice (some ad365) t349.length co13 : Value).ownBlock ∧ (some k_ ≠ (.slice Ao32 t358.length co32 : Value).ownBlock ∧ (k_ ≠ gb354 ∧ k_ ≠ gb363)))) (n := t366.length) (c := co68) ?_).2.2; exact (by (with_reducible repeat (first | apply Kd.N_alloc | apply Kd.N_drewN | apply Kd.N_drew)); exact (Kd.N_mono (Kd.N_far (p := ⟨gb363, 1, none⟩) (Kd.N_far (p := ⟨gb363, 0, none⟩) (Kd.N_mono HO368.out (fun k_ hk => (⟨hk, hk.2.2.2⟩ : _ ∧ k_ ≠ gb363))) (fun _ hk => hk.2) (.slice Ao68 t366.length co68)) (fun _ hk => hk.2) (.bool t369)) (fun _ h_ => h_.1)))); (case side4 => exact (Kd.N_reads' HO368.out).2.1); rintro e w71 ⟨rfl, hb⟩; have n0_ := Aside0.mk (Kd.N_below (by (with_reducible repeat (first | apply Kd.N_alloc | apply Kd.N_drewN | apply Kd.N_drew)); exact (Kd.N_mono (Kd.N_far (p := ⟨gb363, 1, none⟩) (Kd.N_far (p := ⟨gb363, 0, none⟩) (Kd.N_mono HO_355000.out (fun k_ hk => (⟨hk, hk.1.2.2⟩ : _ ∧ k_ ≠ gb363))) (fun _ hk => hk.2) (.slice Ao68 t366.length co68)) (fun _ hk => hk.2) (.bool t369)) (fun _ h_ => h_.1))) hb); have n1_ := Aside0.mk (Kd.N_below (by (with_reducible repeat (first | apply Kd.N_alloc | apply Kd.N_drewN | apply Kd.N_drew)); exact (Kd.N_mono (Kd.N_far (p := ⟨gb363, 1, none⟩) (Kd.N_far (p := ⟨gb363, 0, none⟩) (Kd.N_mono HO_364000.out (fun k_ hk => (⟨hk, hk.1.2.2⟩ : _ ∧ k_ ≠ gb363))) (fun _ hk => hk.2) (.slice Ao68 t366.length co68)) (fun _ hk => hk.2) (.bool t369)) (fun _ h_ => h_.1))) hb); have n2_ := Aside0.mk (Kd.V_below (by (with_reducible repeat (first | apply Kd.V_alloc | apply Kd.V_drewN | apply Kd.V_drew)); exact (Kd.V_mono (Kd.V_far (p := ⟨gb363, 1, none⟩) (Kd.V_far (p := ⟨gb363, 0, none⟩) (Kd.V_mono HL365_1.out (fun k_ hk => (⟨hk, hk.1.1.2.2⟩ : _ ∧ k_ ≠ gb363))) (fun _ hk => hk.2) (.slice Ao68 t366.length co68)) (fun _ hk => hk.2) (.bool t369)) (fun _ h_ => h_.1))) hb); have n3_ := Aside0.mk (Kd.N_below (by (with_reducible repeat (first | apply Kd.N_alloc | apply Kd.N_drewN | apply Kd.N_drew)); exact (Kd.N_mono (Kd.N_far (p := ⟨gb363, 1, none⟩) (Kd.N_far (p := ⟨gb363, 0, none⟩) (Kd.N_mono HO368.out (fun k_ hk => (⟨hk, hk.2.2.2⟩ : _ ∧ k_ ≠ gb363))) (fun _ hk => hk.2) (.slice Ao68 t366.length co68)) (fun _ hk => hk.2) (.bool t369)) (fun _ h_ => h_.1))) hb); have n4_ := Aside0.mk (blk_below (g := gb354) (o := .cells #[.slice (some ad365) t349.length co13, .bool t352] 25 (0, 0)) (by (with_reducible repeat (first | refine blk_drewN ?_ _ | refine blk_drew ?_ | refine blk_alloc ?_ _)); refine blk_far ?_ NB354_363.out _; (with_reducible repeat (first | refine blk_drewN ?_ _ | refine blk_drew ?_ | refine blk_alloc ?_ _)); refine blk_far ?_ NB354_363.out _; (with_reducible repeat (first | refine blk_drewN ?_ _ | refine blk_drew ?_ | refine blk_alloc ?_ _)); exact BK354.out) hb); have n5_ := Aside0.mk (blk_below (g := gb363) (o := .cells #[.slice Ao68 t366.length co68, .bool t369] 25 (0, 0)) (by (with_reducible repeat (first | refine blk_drewN ?_ _ | refine blk_drew ?_ | refine blk_alloc ?_ _)); refine blk_put (cs := #[.slice Ao68 t366.length co68, .bool t361]) ?_ 1 _ rfl; (with_reducible repeat (first | refine blk_drewN ?_ _ | refine blk_drew ?_ | refine blk_alloc ?_ _)); refine blk_put (cs := #[.slice Ao32 t358.length co32, .bool t361]) ?_ 0 _ rfl; (with_reducible repeat (first | refine blk_drewN ?_ _ | refine blk_drew ?_ | refine blk_alloc ?_ _)); exact BK363.out) hb); have n6_ := Aside0.mk (Kd.C_below ((Kd.V_reads' (by (with_reducible repeat (first | apply Kd.V_alloc | apply Kd.V_drewN | apply Kd.V_drew)); exact (Kd.V_mono (Kd.V_far (p := ⟨gb363, 1, none⟩) (Kd.V_far (p := ⟨gb363, 0, none⟩) (Kd.V_mono HL365_1.out (fun k_ hk => (⟨hk, hk.1.1.2.2⟩ : _ ∧ k_ ≠ gb363))) (fun _ hk => hk.2) (.slice Ao68 t366.length co68)) (fun _ hk => hk.2) (.bool t369)) (fun _ h_ => h_.1)))).2.2) hb); have n7_ := Aside0.mk (below_step (by repeat (first | (with_reducible first | exact HB.out | apply below_alloc | apply pw_below_drewN | apply below_drew1 | refine below_set ?_ GE354.out | refine below_set ?_ GE363.out) | exact HB.out)) hb); clear HO_355000; clear HO_364000; clear HL365_1; clear HO368; clear BK354; clear BK363; clear HR365_1; clear HB; have HO_355000 := n0_; have HO_364000 := n1_; have HL365_1 := n2_; have HO368 := n3_; have BK354 := n4_; have BK363 := n5_; have HR365_1 := n6_; have HB := n7_; clear n0_ n1_ n2_ n3_ n4_ n5_ n6_ n7_; (try clear hb); (try clear hb2); (try clear hk); (try clear hi)))
                     go_ret
                     exact ⟨by first | rfl | (simp [errW_none, errW_some] <;> rfl) | (simp [*, errW_none, errW_some] <;> rfl), by repeat (first | (with_reducible first | exact HB.out | apply below_alloc | apply pw_below_drewN | apply below_drew1 | refine below_set ?_ GE354.out | refine below_set ?_ GE363.out) | exact HB.out)⟩
                    ·rw [if_neg c63] at H
                     have c63b0 : (t370 == 0) = false := beq_eq_false_iff_ne.mpr c63
                     have c63b1 : (t370 != 0) = true := bne_iff_ne.mpr c63
                     obtain rfl := Option.some.inj H
                     have hnb72 := NB354_363.out
                     have hnc72 := NB363_354.out
                     have hcz73_0 : wr.cell? ⟨gb354, 0, none⟩ = some (.slice Ao13 t349.length co13) := (blk_cell BK354.out 0).trans rfl
                     have hcz73_1 : wr.cell? ⟨gb354, 1, none⟩ = some (.bool t352) := (blk_cell BK354.out 1).trans rfl
                     have hfz73_0 := blk_frozen BK354.out 0; have hfz73_1 := blk_frozen BK354.out 1
                     have p365 : 0 ≤ (0 : Int) := (by omega)
                     have q365 : 0 < (t349.length : Int) := of_decide_eq_true (by first | (with_reducible assumption) | assumption)
                     obtain ⟨ad365, A365_1, c365_1, e365, hx365_0, hx365_1, hl365_1, hi365_1⟩ := at_T35 (Kd.N_reads' HO_355000.out).2.2 0 p365 q365
                     cases e365
                     obtain ⟨ce365, hce365, hMe365, hcc365⟩ := Kd.N_get HO_355000.out z35 0 p365 (by first | exact q365 | exact of_decide_eq_true (by first | (with_reducible assumption) | assumption) | (have e_ := (Kd.N_reads' HO_355000.out).1; omega))
                     obtain ⟨ua365_1, uc365_1, rfl, ul365_1, ge365_1⟩ := k35_openF hMe365
                     have hv365_1 := hcc365 1 _ rfl
                     rw [add_field _ _ 1 (by omega)] at hv365_1
                     replace hv365_1 := Option.some.inj (hv365_1.symm.trans hx365_1)
                     injection hv365_1 with hva_ hvn_ hvc_
                     rw [hva_] at ge365_1
                     rw [hvc_] at ul365_1
                     have HL365_1 := Aside0.mk (show Kd.V Kd.string 9 _ w.heap.size _ _ ((rd_T35 t349 0).f1) from Kd.V_mk ul365_1 ge365_1)
                     clear hva_ hvn_ hvc_ ge365_1 ul365_1
                     clear hcc365 hce365
                     have qi365 : (0 < t349.length) = True := eq_true (by omega)
                     (try rw [show ((0 : Int)).toNat = 0 from rfl] at hx365_0)
                     (try rw [show 0 * 2 = 0 from rfl] at hx365_0)
                     (try rw [Addr.add_zero'] at hx365_0)
                     (try rw [show ((0 : Int)).toNat = 0 from rfl] at hx365_1)
                     (try rw [show 0 * 2 = 0 from rfl] at hx365_1)
                     (try rw [Addr.add_zero'] at hx365_1)
                     have HR365_1 := Aside0.mk hi365_1
                     have HC365_1 := Aside0.mk hl365_1
                     clear hi365_1 hl365_1
                     replace p365 := eq_true p365
                     replace q365 := eq_true q365
                     go_wp2_with (first | ((with_reducible refine gate_callee (f := 11) rfl ?_); refine goesL_ (some 101) rfl rfl Tryz.func11 (by kernel_rfl) rfl #[.string ((((t355 ++ (⟨#[59, 32]⟩ : ByteArray)) ++ ((rd_T35 t349 0).f0)) ++ (⟨#[32]⟩ : ByteArray)) ++ a2), .bool a1] rfl (by (try simp only [List.map_toArray, List.map_cons, List.map_nil]); first | done | rfl | (simp only [List.length_drop, List.length_take]; rfl)) ?_; (with_reducible refine (csp_Parse.calls ((((t355 ++ (⟨#[59, 32]⟩ : ByteArray)) ++ ((rd_T35 t349 0).f0)) ++ (⟨#[32]⟩ : ByteArray)) ++ a2) a1 t366 t369 t370 _ A62.out).mono ?_); rintro e w74 ⟨v367, rfl, ho0, hb⟩; refine ⟨_, rfl, ?_⟩; have n0_ := Aside0.mk (Kd.N_elder' (by (with_reducible repeat (first | apply Kd.N_alloc | apply Kd.N_drewN | apply Kd.N_drew)); exact HO_355000.out) (Kd.N_base ho0) hb); have n1_ := Aside0.mk (Kd.N_elder' (by (with_reducible repeat (first | apply Kd.N_alloc | apply Kd.N_drewN | apply Kd.N_drew)); exact HO_364000.out) (Kd.N_base ho0) hb); have n2_ := Aside0.mk (Kd.V_elder' (by (with_reducible repeat (first | apply Kd.V_alloc | apply Kd.V_drewN | apply Kd.V_drew)); exact HL365_1.out) (Kd.N_base ho0) hb); have n3_ := Aside0.mk (Kd.N_lower (Kd.N_mono (ok' := fun k_ => some k_ ≠ (.slice (some ad365) t349.length co13 : Value).ownBlock ∧ some k_ ≠ (.slice Ao32 t358.length co32 : Value).ownBlock ∧ k_ ≠ gb354 ∧ k_ ≠ gb363) ho0 (fun k_ hk_ => ⟨(Kd.fresh' (Kd.N_lt (by (with_reducible repeat (first | apply Kd.N_alloc | apply Kd.N_drewN | apply Kd.N_drew)); exact HO_355000.out)) k_ hk_), (Kd.fresh' (Kd.N_lt (by (with_reducible repeat (first | apply Kd.N_alloc | apply Kd.N_drewN | apply Kd.N_drew)); exact HO_364000.out)) k_ hk_), (Kd.freshB (g := gb354) (o := .cells #[.slice (some ad365) t349.length co13, .bool t352] 25 (0, 0)) (by (with_reducible repeat (first | refine blk_drewN ?_ _ | refine blk_drew ?_ | refine blk_alloc ?_ _)); exact BK354.out) k_ hk_), (Kd.freshB (g := gb363) (o := .cells #[.slice Ao32 t358.length co32, .bool t361] 25 (0, 0)) (by (with_reducible repeat (first | refine blk_drewN ?_ _ | refine blk_drew ?_ | refine blk_alloc ?_ _)); exact BK363.out) k_ hk_)⟩)) (below_size (by repeat (first | (with_reducible first | exact HB.out | apply below_alloc | apply pw_below_drewN | apply below_drew1 | refine below_set ?_ GE354.out | refine below_set ?_ GE363.out) | exact HB.out)))); have n4_ := Aside0.mk (blk_below (g := gb354) (o := .cells #[.slice (some ad365) t349.length co13, .bool t352] 25 (0, 0)) (by (with_reducible repeat (first | refine blk_drewN ?_ _ | refine blk_drew ?_ | refine blk_alloc ?_ _)); exact BK354.out) hb); have n5_ := Aside0.mk (blk_below (g := gb363) (o := .cells #[.slice Ao32 t358.length co32, .bool t361] 25 (0, 0)) (by (with_reducible repeat (first | refine blk_drewN ?_ _ | refine blk_drew ?_ | refine blk_alloc ?_ _)); exact BK363.out) hb); have n6_ := Aside0.mk (Kd.C_below (by repeat (first | (with_reducible exact HR365_1.out) | (with_reducible refine Kd.C_alloc ?_ _) | (with_reducible refine Kd.C_drewN ?_ _) | (with_reducible refine Kd.C_drew ?_) | exact HR365_1.out)) hb); have n7_ := Aside0.mk (below_step (by repeat (first | (with_reducible first | exact HB.out | apply below_alloc | apply pw_below_drewN | apply below_drew1 | refine below_set ?_ GE354.out | refine below_set ?_ GE363.out) | exact HB.out)) hb); clear HO_355000; clear HO_364000; clear HL365_1; clear BK354; clear BK363; clear HR365_1; clear HB; have HO_355000 := n0_; have HO_364000 := n1_; have HL365_1 := n2_; have HO368 := n3_; have BK354 := n4_; have BK363 := n5_; have HR365_1 := n6_; have HB := n7_; clear n0_ n1_ n2_ n3_ n4_ n5_ n6_ n7_; (try clear hb); (try clear hb2); (try clear hk); (try clear hi); (try clear ho0); obtain ⟨Ao75, co75, eo75⟩ := Kd.N_slice HO368.out; subst eo75; have hcz76_0 : w74.cell? ⟨gb363, 0, none⟩ = some (.slice Ao32 t358.length co32) := (blk_cell BK363.out 0).trans rfl; have hcz76_1 : w74.cell? ⟨gb363, 1, none⟩ = some (.bool t361) := (blk_cell BK363.out 1).trans rfl; have hfz76_0 := blk_frozen BK363.out 0; have hfz76_1 := blk_frozen BK363.out 1))
                     go_ret
                     exact ⟨by first | rfl | (simp [errW_none, errW_some] <;> rfl) | (simp [*, errW_none, errW_some] <;> rfl), by repeat (first | (with_reducible first | exact HB.out | apply below_alloc | apply pw_below_drewN | apply below_drew1 | refine below_set ?_ GE354.out | refine below_set ?_ GE363.out) | exact HB.out)⟩
                  ·rw [if_neg c58] at H
                   exact absurd H (by simp)
                 ·rw [if_neg c57] at H
                  exact absurd H (by simp)
                ·rw [if_neg c56] at H
                 exact absurd H (by simp)
               ·rw [if_neg c55] at H
                exact absurd H (by simp)
              ·rw [if_neg c54] at H
               exact absurd H (by simp)
  ·rw [if_neg c7] at H
   have c7b0 : (t353 == 0) = false := beq_eq_false_iff_ne.mpr c7
   have c7b1 : (t353 != 0) = true := bne_iff_ne.mpr c7
   obtain rfl := Option.some.inj H
   go_enter Tryz.func3, Tryz.ntmps3
   go_wp2_with (first | ((with_reducible refine gate_callee (f := 10) rfl ?_); refine goesL_ (some 15) rfl rfl Tryz.func10 (by kernel_rfl) rfl #[] rfl (by (try simp only [List.map_toArray, List.map_cons, List.map_nil]); first | done | rfl | (simp only [List.length_drop, List.length_take]; rfl)) ?_; (with_reducible refine (bastionlaw14_lives.calls  true _ ?side1 A4.out).mono ?_); (case side1 => exact UTabs.below HTB.out (by repeat (first | (with_reducible first | exact HB.out | apply below_alloc | apply pw_below_drewN | apply below_drew1) | exact HB.out))); rintro e w77 ⟨rfl, hb⟩; refine ⟨_, rfl, ?_⟩; have n0_ := Aside0.mk (below_step (by repeat (first | (with_reducible first | exact HB.out | apply below_alloc | apply pw_below_drewN | apply below_drew1) | exact HB.out)) hb); clear HB; have HB := n0_; clear n0_; (try clear hb); (try clear hb2); (try clear hk); (try clear hi)) | ((with_reducible refine gate_callee (f := 11) rfl ?_); refine goesL_ (some 20) rfl rfl Tryz.func11 (by kernel_rfl) rfl #[.string a0, .bool a1] rfl (by (try simp only [List.map_toArray, List.map_cons, List.map_nil]); first | done | rfl | (simp only [List.length_drop, List.length_take]; rfl)) ?_; (with_reducible refine (csp_Parse.calls a0 a1 t349 t352 t353 _ A6.out).mono ?_); rintro e w78 ⟨v350, rfl, ho0, hb⟩; refine ⟨_, rfl, ?_⟩; have n0_ := Aside0.mk (Kd.N_lower (Kd.N_mono (ok' := fun k_ => True) ho0 (fun k_ hk_ => trivial)) (below_size (by repeat (first | (with_reducible first | exact HB.out | apply below_alloc | apply pw_below_drewN | apply below_drew1) | exact HB.out)))); have n1_ := Aside0.mk (below_step (by repeat (first | (with_reducible first | exact HB.out | apply below_alloc | apply pw_below_drewN | apply below_drew1) | exact HB.out)) hb); clear HB; have HO351 := n0_; have HB := n1_; clear n0_ n1_; (try clear hb); (try clear hb2); (try clear hk); (try clear hi); (try clear ho0)) | ((with_reducible refine gate_dst (N := 7) rfl ?_); (try (refine gate_guard (by rfl) ?_; dsimp only)); refine box_event ?hg (N := 7) ?hd (cs := #[.slice none 0 0, .bool false]) (t := 25) ?hr ?_; (case hd => rfl); (case hg => rfl); (case hr => first | (go_simp; done) | (go_simp; rfl)); intro gb354 hg w79 hbox hb; have n0_ := Aside0.mk (Kd.N_below (Kd.N_elderB (by (with_reducible repeat (first | apply Kd.N_alloc | apply Kd.N_drewN | apply Kd.N_drew)); exact HO351.out) gb354 (Nat.le_of_eq hg.symm)) hb); have n1_ := Aside0.mk (below_step (by repeat (first | (with_reducible first | exact HB.out | apply below_alloc | apply pw_below_drewN | apply below_drew1) | exact HB.out)) hb); have n2_ := Aside0.mk (hbox); have n3_ := Aside0.mk ((by rw [hg]; exact (below_size (by repeat (first | (with_reducible first | exact HB.out | apply below_alloc | apply pw_below_drewN | apply below_drew1) | exact HB.out))) : w.heap.size ≤ gb354)); have n4_ := Aside0.mk ((by rw [hg]; exact (below_size (by repeat (first | (with_reducible first | exact HB.out | apply below_alloc | apply pw_below_drewN | apply below_drew1) | exact HB.out))) : w.heap.size ≤ gb354)); clear HO351; clear HB; have HO351 := n0_; have HB := n1_; have BK354 := n2_; have GW354 := n3_; have GE354 := n4_; clear n0_ n1_ n2_ n3_ n4_; clear hb hbox hg; obtain ⟨Ao80, co80, eo80⟩ := Kd.N_slice HO351.out; subst eo80; have hcz81_0 : w79.cell? ⟨gb354, 0, none⟩ = some (.slice none 0 0) := (blk_cell BK354.out 0).trans rfl; have hcz81_1 : w79.cell? ⟨gb354, 1, none⟩ = some (.bool false) := (blk_cell BK354.out 1).trans rfl; have hfz81_0 := blk_frozen BK354.out 0; have hfz81_1 := blk_frozen BK354.out 1))
   go_ret
   exact ⟨by first | rfl | (simp [errW_none, errW_some] <;> rfl) | (simp [*, errW_none, errW_some] <;> rfl), by repeat (first | (with_reducible first | exact HB.out | apply below_alloc | apply pw_below_drewN | apply below_drew1 | refine below_set ?_ GE354.out) | exact HB.out)⟩
 ·replace c5 := Bool.eq_false_iff.mpr c5
  subst c5
  have H1 : (some false) = some r := by rw [if_neg (show ¬ (false = true) by decide)] at H; exact H
  clear H
  have H := H1
  clear H1
  obtain rfl := Option.some.inj H
  go_enter Tryz.func3, Tryz.ntmps3
  go_wp2_with (first | ((with_reducible refine gate_callee (f := 10) rfl ?_); refine goesL_ (some 15) rfl rfl Tryz.func10 (by kernel_rfl) rfl #[] rfl (by (try simp only [List.map_toArray, List.map_cons, List.map_nil]); first | done | rfl | (simp only [List.length_drop, List.length_take]; rfl)) ?_; (with_reducible refine (bastionlaw14_lives.calls  false _ ?side1 A4.out).mono ?_); (case side1 => exact UTabs.below HTB.out (by repeat (first | (with_reducible first | exact HB.out | apply below_alloc | apply pw_below_drewN | apply below_drew1) | exact HB.out))); rintro e w82 ⟨rfl, hb⟩; refine ⟨_, rfl, ?_⟩; have n0_ := Aside0.mk (below_step (by repeat (first | (with_reducible first | exact HB.out | apply below_alloc | apply pw_below_drewN | apply below_drew1) | exact HB.out)) hb); clear HB; have HB := n0_; clear n0_; (try clear hb); (try clear hb2); (try clear hk); (try clear hi)))
  go_ret
  exact ⟨by first | rfl | (simp [errW_none, errW_some] <;> rfl) | (simp [*, errW_none, errW_some] <;> rfl), by repeat (first | (with_reducible first | exact HB.out | apply below_alloc | apply pw_below_drewN | apply below_drew1) | exact HB.out)⟩

/-- THE ONE PURE STATEMENT of bastionlaw14_CspBack: yours. -/
def bastionlaw14_CspBack.Pure : Prop := ∀ (a0 : ByteArray) (a1 : Bool) (a2 : ByteArray), a0.size ≤ 140737488351232 → a2.size ≤ 140737488351232 → ∃ k, bastionlaw14_CspBack.f k a0 a1 a2 = some true
theorem bastionlaw14_CspBack.walk (P : bastionlaw14_CspBack.Pure) (a0 : ByteArray) (a1 : Bool) (a2 : ByteArray) (w : World) (hT : UTabs w) (w0 : a0.size ≤ 140737488351232) (w2 : a2.size ≤ 140737488351232) :
  Calls Tryz.prog 3 #[.string a0, .bool a1, .string a2] w fun e w' => e = .returned (.bool true) ∧ Below w.heap.size w w' := by
 obtain ⟨k, h⟩ := P a0 a1 a2 w0 w2
 refine (bastionlaw14_CspBack.calls k a0 a1 a2 true w hT h).mono ?_
 rintro e w' ⟨rfl, hd⟩
 exact ⟨rfl, hd⟩

end Go.Proofs.YtnndgmbflkdhkaaGreatDoor.Q
