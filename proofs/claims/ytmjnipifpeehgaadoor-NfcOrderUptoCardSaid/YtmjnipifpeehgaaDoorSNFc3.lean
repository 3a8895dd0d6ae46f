/- tables.Check's third closure: a pair's own part; it is counted in the map. Written by nchk3gen.py. -/
import Derived.Test.YtmjnipifpeehgaaDoorSNKey
import Derived.Test.YtmjnipifpeehgaaDoorSNFin
set_option linter.unusedSimpArgs false
set_option linter.unusedVariables false
namespace Go.Proofs.YtmjnipifpeehgaaDoor.Q
open Go.RowKit Go.Proofs.YtmjnipifpeehgaaDoorW.PrintWords Go.Proofs.YtmjnipifpeehgaaDoorW.PrintLast Go.Proofs.YtmjnipifpeehgaaDoorW.PrintMore Go.Maps Go.MapKept
/-- a pair's own part -/
def pairFine (x : S45) : Bool := mayF x.f1 && (mayF x.f2 && (decide (x.f1 < x.f0) && (decide (x.f2 < x.f0) && (!(x.f2 == 0) || x.f3))))
theorem cntP_le (d : List S45) (a b : Int) : cntP d a b ≤ d.length := List.countP_le_length
set_option maxHeartbeats 8000000 in
set_option maxRecDepth 100000 in
theorem fine3_calls (x : S45) (B sb : Nat) (d : List S45) (W : World) (hT : ∀ W', W.grownBy W' (some B) → UTabs W') (hbox : W.cell? ⟨sb, 0, none⟩ = some (.map (some B))) (hsB : sb ≠ B) (hI : MapI B W d) (hx1 : wf32 x.f1 = true) (hx2 : wf32 x.f2 = true) (hd : d.length ≤ 1048576) :
    Calls Tryd.prog 50 (#[.agg #[.int .i32 x.f0, .int .i32 x.f1, .int .i32 x.f2, .bool x.f3]] ++ #[.pointer (some ⟨sb, 0, none⟩)]) W fun e w' => e = .returned (.bool (pairFine x)) ∧ MapI B w' (d ++ [x]) ∧ W.grownBy w' (some B) := by
  show Calls Tryd.prog 50 #[.agg #[.int .i32 x.f0, .int .i32 x.f1, .int .i32 x.f2, .bool x.f3], .pointer (some ⟨sb, 0, none⟩)] W _
  obtain ⟨PF, hPF⟩ : ∃ PF, PF = pairFine x := ⟨_, rfl⟩
  rw [← hPF]
  have HPF := Lib.hid hPF
  have HT := Lib.hid hT
  have hBlt : B < W.heap.size := by obtain ⟨es, clock, h1, _⟩ := hI; exact (Array.getElem?_eq_some_iff.1 h1).1
  have hsl := World.block_lt_of_cell? _ _ hbox
  -- behind the map's part: w4 holds the box, and the map as it will be
  have rest : ∀ (w4 : World) (K : Ending → World → Prop), True := fun _ _ => trivial
  clear hPF hT rest
  have hcc := cntP_le d x.f1 x.f2
  cases ho : x.f3 with
  | true =>
    (have hI1 := hI.one x ho); (obtain ⟨r, a, b, o⟩ := x); (simp only at ho hI1 HPF ⊢); (subst ho); (have HI1 := Lib.hid hI1); (clear hI hI1 hcc hx1 hx2 hd); (go_enter Tryd.func50, Tryd.ntmps50); (have hbt : (W.alloc (.cells #[.int .i32 r, .int .i32 a, .int .i32 b, .bool true] 45)).heap[W.heap.size]? = some (.cells #[.int .i32 r, .int .i32 a, .int .i32 b, .bool true] 45 (0, 0)) := heapNewS _ _); (have HBT := Lib.hid hbt); (have HGT := Lib.hid (show W.grownBy (W.alloc (.cells #[.int .i32 r, .int .i32 a, .int .i32 b, .bool true] 45)) (some B) from World.grownBy_alloc W _ _)); (have HIT := Lib.hid (HI1.out.below ((Below.refl W.heap.size W).alloc (Nat.le_refl _) (.cells #[.int .i32 r, .int .i32 a, .int .i32 b, .bool true] 45)))); (have hlt : W.heap.size < (W.alloc (.cells #[.int .i32 r, .int .i32 a, .int .i32 b, .bool true] 45)).heap.size := (Array.getElem?_eq_some_iff.1 hbt).1); (clear hbt); (have hm1 := may_calls a (W.alloc (.cells #[.int .i32 r, .int .i32 a, .int .i32 b, .bool true] 45)) (HT.out _ HGT.out))
    cases hfa : mayF a with
    | false =>
      (rw [hfa] at hm1); (go_wp2_with fail); (refine hm1.mono ?_); (rintro e w6 ⟨rfl, hb6⟩); (have HB6 := Lib.hid ((hb6.block W.heap.size (hlt)).trans HBT.out)); (have HG6 := Lib.hid (Lib.grownBy_below HGT.out hb6)); (have HI6 := Lib.hid (HIT.out.below hb6)); (have hl6 : W.heap.size < w6.heap.size := (Array.getElem?_eq_some_iff.1 HB6.out).1); (clear hb6 hm1); (have z0 : w6.cell? ⟨W.heap.size, 0, none⟩ = some (.int .i32 r) := (Lib.cell_of_heap HB6.out 0).trans rfl); (have z1 : w6.cell? ⟨W.heap.size, 1, none⟩ = some (.int .i32 a) := (Lib.cell_of_heap HB6.out 1).trans rfl); (have z2 : w6.cell? ⟨W.heap.size, 2, none⟩ = some (.int .i32 b) := (Lib.cell_of_heap HB6.out 2).trans rfl); (have z3 : w6.cell? ⟨W.heap.size, 3, none⟩ = some (.bool true) := (Lib.cell_of_heap HB6.out 3).trans rfl); (go_wp2); (go_ret); (exact ⟨by rw [HPF.out]; simp [pairFine, hfa], HI6.out, HG6.out⟩)
    | true =>
      (rw [hfa] at hm1); (go_wp2_with fail); (refine hm1.mono ?_); (rintro e w6 ⟨rfl, hb6⟩); (have HB6 := Lib.hid ((hb6.block W.heap.size (hlt)).trans HBT.out)); (have HG6 := Lib.hid (Lib.grownBy_below HGT.out hb6)); (have HI6 := Lib.hid (HIT.out.below hb6)); (have hl6 : W.heap.size < w6.heap.size := (Array.getElem?_eq_some_iff.1 HB6.out).1); (clear hb6 hm1); (have z0 : w6.cell? ⟨W.heap.size, 0, none⟩ = some (.int .i32 r) := (Lib.cell_of_heap HB6.out 0).trans rfl); (have z1 : w6.cell? ⟨W.heap.size, 1, none⟩ = some (.int .i32 a) := (Lib.cell_of_heap HB6.out 1).trans rfl); (have z2 : w6.cell? ⟨W.heap.size, 2, none⟩ = some (.int .i32 b) := (Lib.cell_of_heap HB6.out 2).trans rfl); (have z3 : w6.cell? ⟨W.heap.size, 3, none⟩ = some (.bool true) := (Lib.cell_of_heap HB6.out 3).trans rfl); (have hm2 := may_calls b w6 (HT.out _ HG6.out))
      cases hfb : mayF b with
      | false =>
        (rw [hfb] at hm2); (go_wp2_with fail); (refine hm2.mono ?_); (rintro e w7 ⟨rfl, hb7⟩); (have HB7 := Lib.hid ((hb7.block W.heap.size (hl6)).trans HB6.out)); (have HG7 := Lib.hid (Lib.grownBy_below HG6.out hb7)); (have HI7 := Lib.hid (HI6.out.below hb7)); (have hl7 : W.heap.size < w7.heap.size := (Array.getElem?_eq_some_iff.1 HB7.out).1); (clear hb7 hm2); (have z0 : w7.cell? ⟨W.heap.size, 0, none⟩ = some (.int .i32 r) := (Lib.cell_of_heap HB7.out 0).trans rfl); (have z1 : w7.cell? ⟨W.heap.size, 1, none⟩ = some (.int .i32 a) := (Lib.cell_of_heap HB7.out 1).trans rfl); (have z2 : w7.cell? ⟨W.heap.size, 2, none⟩ = some (.int .i32 b) := (Lib.cell_of_heap HB7.out 2).trans rfl); (have z3 : w7.cell? ⟨W.heap.size, 3, none⟩ = some (.bool true) := (Lib.cell_of_heap HB7.out 3).trans rfl); (go_wp2); (go_ret); (exact ⟨by rw [HPF.out]; simp [pairFine, hfb], HI7.out, HG7.out⟩)
      | true =>
        (rw [hfb] at hm2); (go_wp2_with fail); (refine hm2.mono ?_); (rintro e w7 ⟨rfl, hb7⟩); (have HB7 := Lib.hid ((hb7.block W.heap.size (hl6)).trans HB6.out)); (have HG7 := Lib.hid (Lib.grownBy_below HG6.out hb7)); (have HI7 := Lib.hid (HI6.out.below hb7)); (have hl7 : W.heap.size < w7.heap.size := (Array.getElem?_eq_some_iff.1 HB7.out).1); (clear hb7 hm2); (have z0 : w7.cell? ⟨W.heap.size, 0, none⟩ = some (.int .i32 r) := (Lib.cell_of_heap HB7.out 0).trans rfl); (have z1 : w7.cell? ⟨W.heap.size, 1, none⟩ = some (.int .i32 a) := (Lib.cell_of_heap HB7.out 1).trans rfl); (have z2 : w7.cell? ⟨W.heap.size, 2, none⟩ = some (.int .i32 b) := (Lib.cell_of_heap HB7.out 2).trans rfl); (have z3 : w7.cell? ⟨W.heap.size, 3, none⟩ = some (.bool true) := (Lib.cell_of_heap HB7.out 3).trans rfl)
        by_cases c1 : a < r
        · by_cases c2 : b < r
          · by_cases c3 : b = 0
            · have c3z : (b != 0) = false := by rw [c3]; rfl
              (have c3y : (b == 0) = true := by rw [c3]; rfl); (have C := Lib.hid (And.intro c1 c2)); (go_wp2); (go_ret); (exact ⟨by rw [HPF.out]; simp [pairFine, hfa, hfb, C.out.1, C.out.2, c3y], HI7.out, HG7.out⟩)
            · have c3z : (b != 0) = true := bne_iff_ne.2 c3
              (have c3y : (b == 0) = false := beq_eq_false_iff_ne.2 c3); (have C := Lib.hid (And.intro c1 c2)); (go_wp2); (go_ret); (exact ⟨by rw [HPF.out]; simp [pairFine, hfa, hfb, C.out.1, C.out.2, c3y], HI7.out, HG7.out⟩)
          · have HF := Lib.hid (show PF = false from by rw [HPF.out]; unfold pairFine; show (mayF a && (mayF b && (decide (a < r) && (decide (b < r) && _)))) = false; rw [show decide (b < r) = false from decide_eq_false c2]; simp)
            (go_wp2); (go_ret); (exact ⟨by rw [HF.out]; rfl, HI7.out, HG7.out⟩)
        · have HF := Lib.hid (show PF = false from by rw [HPF.out]; unfold pairFine; show (mayF a && (mayF b && (decide (a < r) && (decide (b < r) && _)))) = false; rw [show decide (a < r) = false from decide_eq_false c1]; simp)
          (go_wp2); (go_ret); (exact ⟨by rw [HF.out]; rfl, HI7.out, HG7.out⟩)
  | false =>
    (have hb1 := hI.below ((Below.refl W.heap.size W).alloc (Nat.le_refl _) (.cells #[.int .i32 x.f0, .int .i32 x.f1, .int .i32 x.f2, .bool x.f3] 45))); (obtain ⟨st, W1, W2, hl0, he, hl1, hs, hg1, hg2, hI2⟩ := MapI.bump (show MapI B (W.alloc (.cells #[.int .i32 x.f0, .int .i32 x.f1, .int .i32 x.f2, .bool x.f3] 45)).drew d from hb1) x ho hx1 hx2); (obtain ⟨c, hc⟩ : ∃ c : Int, c = (cntP d x.f1 x.f2 : Int) := ⟨_, rfl⟩); (have hc0 : 0 ≤ c ∧ c ≤ 1048576 := by omega); (rw [← hc] at hl0 he hl1 hs); (obtain ⟨r, a, b, o⟩ := x); (simp only at ho hl0 he hl1 hs hg1 hg2 hI2 HPF hx1 hx2 ⊢); (subst ho); (unfold keyV at hl0 he hl1); (have hwr : IntKind.i64.wrap (c + 1) = c + 1 := by rw [IntKind.wrap_i64]; omega); (have hbx : ((W.alloc (.cells #[.int .i32 r, .int .i32 a, .int .i32 b, .bool false] 45)).drew).heap[W.heap.size]? = some (.cells #[.int .i32 r, .int .i32 a, .int .i32 b, .bool false] 45 (0, 0)) := heapNewS _ _)
    have hgA : W.grownBy ((W.alloc (.cells #[.int .i32 r, .int .i32 a, .int .i32 b, .bool false] 45)).drew) (some B) := by
      (have h := World.grownBy_alloc W (.cells #[.int .i32 r, .int .i32 a, .int .i32 b, .bool false] 45) (some B)); (exact ⟨h.os, h.tape, h.output, h.size, h.block⟩)
    have g0_0 : ((W.alloc (.cells #[.int .i32 r, .int .i32 a, .int .i32 b, .bool false] 45)).drew).cell? ⟨sb, 0, none⟩ = some (.map (some B)) := (World.grownBy.cell_far hgA ⟨sb, 0, none⟩ hsl (fun e => hsB (Option.some.inj e))).trans hbox
    (have g0_1 : ((W.alloc (.cells #[.int .i32 r, .int .i32 a, .int .i32 b, .bool false] 45)).drew).cell? ⟨W.heap.size, 1, none⟩ = some (.int .i32 a) := (Lib.cell_of_heap hbx 1).trans rfl); (have g0_2 : ((W.alloc (.cells #[.int .i32 r, .int .i32 a, .int .i32 b, .bool false] 45)).drew).cell? ⟨W.heap.size, 2, none⟩ = some (.int .i32 b) := (Lib.cell_of_heap hbx 2).trans rfl); (have hsz : W.heap.size < ((W.alloc (.cells #[.int .i32 r, .int .i32 a, .int .i32 b, .bool false] 45)).drew).heap.size := (Array.getElem?_eq_some_iff.1 hbx).1)
    have hneB : some W.heap.size ≠ some B := fun e => by have := Option.some.inj e; omega
    have g1_0 : W1.cell? ⟨sb, 0, none⟩ = some (.map (some B)) := (World.grownBy.cell_far hg1 ⟨sb, 0, none⟩ (Nat.lt_trans hsl hsz) (fun e => hsB (Option.some.inj e))).trans g0_0
    (have g1_1 : W1.cell? ⟨W.heap.size, 1, none⟩ = some (.int .i32 a) := (World.grownBy.cell_far hg1 ⟨W.heap.size, 1, none⟩ hsz hneB).trans g0_1); (have g1_2 : W1.cell? ⟨W.heap.size, 2, none⟩ = some (.int .i32 b) := (World.grownBy.cell_far hg1 ⟨W.heap.size, 2, none⟩ hsz hneB).trans g0_2); (have HB2 := Lib.hid ((hg2.block _ hsz hneB).trans hbx)); (have HG2 := Lib.hid (Lib.grownBy_trans hgA hg2)); (have HI2 := Lib.hid hI2); (clear hI hI2 hb1 hcc hx1 hx2 hd hbx hgA hg1 hg2 hneB hc hbox); (go_enter Tryd.func50, Tryd.ntmps50); (go_wp2_with fail)
    refine start_ (n := 11) (S := fun w' => w'.cell? ⟨sb, 0, none⟩ = some (.map (some B)) ∧ w'.cell? ⟨W.heap.size, 1, none⟩ = some (.int .i32 a) ∧ w'.cell? ⟨W.heap.size, 2, none⟩ = some (.int .i32 b) ∧ (Instr.lookup 67 (.map (some B)) (.agg #[.int .i32 a, .int .i32 b]) false).run Tryd.prog w' = .ok (.int .i64 c) w') (ds := [10]) #[false, false, false, false, false, false, false, false, false, false, false] (by kernel_rfl) rfl rfl ⟨g0_0, g0_1, g0_2, hl0⟩ (fun hHeld => ?_)
    refine pure_ (i := 1) (N := some 8) (v := ?_) (a' := ?_) #[false, true, false, false, false, false, false, false, false, false, false] rfl rfl (by kernel_rfl) (fun _ _ _ h => h) (Or.inl ⟨by rfl, ?_⟩) ?_ ?_
    (rotate_left); (· (intro w'); (go_simp); (with_reducible rfl)); (rotate_left); (· (simp only [Act.put, List.setIfInBounds_toArray, List.set_cons_zero, List.set_cons_succ, i64_w, i32_w]); (rfl))
    refine pure_ (i := 3) (N := some 10) (v := ?_) (a' := ?_) #[false, true, false, true, false, false, false, false, false, false, false] rfl rfl (by kernel_rfl) (fun _ _ _ h => h) (Or.inl ⟨by rfl, ?_⟩) ?_ ?_
    (rotate_left); (· (intro w'); (go_simp); (with_reducible rfl)); (rotate_left); (· (simp only [Act.put, List.setIfInBounds_toArray, List.set_cons_zero, List.set_cons_succ, i64_w, i32_w]); (rfl))
    refine take_ (i := 0) (N := some 7) (v := ?_) (a' := ?_) #[true, true, false, true, false, false, false, false, false, false, false] rfl rfl (by kernel_rfl) (fun _ _ _ h => h) (Or.inl ⟨by rfl, ?_⟩) hHeld ?_ ?_
    (rotate_left); (· (rintro w' ⟨s0, s1, s2, s3⟩); (go_simp); (with_reducible rfl)); (rotate_left); (· (simp only [Act.put, List.setIfInBounds_toArray, List.set_cons_zero, List.set_cons_succ, i64_w, i32_w]); (rfl))
    refine take_ (i := 2) (N := some 9) (v := ?_) (a' := ?_) #[true, true, true, true, false, false, false, false, false, false, false] rfl rfl (by kernel_rfl) (fun _ _ _ h => h) (Or.inl ⟨by rfl, ?_⟩) hHeld ?_ ?_
    (rotate_left); (· (rintro w' ⟨s0, s1, s2, s3⟩); (go_simp); (with_reducible rfl)); (rotate_left); (· (simp only [Act.put, List.setIfInBounds_toArray, List.set_cons_zero, List.set_cons_succ, i64_w, i32_w]); (rfl))
    refine take_ (i := 4) (N := some 11) (v := ?_) (a' := ?_) #[true, true, true, true, true, false, false, false, false, false, false] rfl rfl (by kernel_rfl) (fun _ _ _ h => h) (Or.inl ⟨by rfl, ?_⟩) hHeld ?_ ?_
    (rotate_left); (· (rintro w' ⟨s0, s1, s2, s3⟩); (go_simp); (with_reducible rfl)); (rotate_left); (· (simp only [Act.put, List.setIfInBounds_toArray, List.set_cons_zero, List.set_cons_succ, i64_w, i32_w]); (rfl))
    refine pure_ (i := 5) (N := some 12) (v := ?_) (a' := ?_) #[true, true, true, true, true, true, false, false, false, false, false] rfl rfl (by kernel_rfl) (fun _ _ _ h => h) (Or.inl ⟨by rfl, ?_⟩) ?_ ?_
    (rotate_left); (· (intro w'); (go_simp); (with_reducible rfl)); (rotate_left); (· (simp only [Act.put, List.setIfInBounds_toArray, List.set_cons_zero, List.set_cons_succ, i64_w, i32_w]); (rfl))
    refine take_ (i := 6) (N := some 13) (v := ?_) (a' := ?_) #[true, true, true, true, true, true, true, false, false, false, false] rfl rfl (by kernel_rfl) (fun _ _ _ h => h) (Or.inl ⟨by rfl, ?_⟩) hHeld ?_ ?_
    (rotate_left); (· (rintro w' ⟨s0, s1, s2, s3⟩); (go_simp); (with_reducible rfl)); (rotate_left); (· (simp only [Act.put, List.setIfInBounds_toArray, List.set_cons_zero, List.set_cons_succ, i64_w, i32_w]); (rfl))
    refine pure_ (i := 7) (N := some 14) (v := ?_) (a' := ?_) #[true, true, true, true, true, true, true, true, false, false, false] rfl rfl (by kernel_rfl) (fun _ _ _ h => h) (Or.inl ⟨by rfl, ?_⟩) ?_ ?_
    (rotate_left); (· (intro w'); (go_simp); (with_reducible rfl)); (rotate_left); (· (simp only [Act.put, List.setIfInBounds_toArray, List.set_cons_zero, List.set_cons_succ, i64_w, i32_w]); (rfl))
    refine one_ (i := 8) (N := some 15) #[true, true, true, true, true, true, true, true, true, false, false] rfl rfl (by kernel_rfl) (by decide) (fun K hK => ?_)
    (refine value_ (w1 := ?_) (v := ?_) (by rfl) rfl ?_ ?_); (rotate_left 2)
    · go_simp
      constructor
      · rfl
      · rfl
    refine hK.out _ _ ⟨g1_0, g1_1, g1_2, hl1⟩ (fun hHeld => ?_)
    (clear hK K); (refine norm_ (a' := ?_) ?_ ?_); (rotate_left); (· (show Act.put _ (some 15) _ = _); (simp only [Act.put, List.setIfInBounds_toArray, List.set_cons_zero, List.set_cons_succ, i64_w, i32_w]); (rfl))
    refine pure_ (i := 9) (N := some 16) (v := ?_) (a' := ?_) #[true, true, true, true, true, true, true, true, true, true, false] rfl rfl (by kernel_rfl) (fun _ _ _ h => h) (Or.inl ⟨by rfl, ?_⟩) ?_ ?_
    (rotate_left); (· (intro w'); (go_simp); (with_reducible rfl)); (rotate_left); (· (simp only [Act.put, List.setIfInBounds_toArray, List.set_cons_zero, List.set_cons_succ, i64_w, i32_w]); (rfl))
    refine last_ (i := 10) (N := none) #[true, true, true, true, true, true, true, true, true, true, true] rfl rfl (by kernel_rfl) (by decide) (fun K hK => ?_)
    (refine skip_ (w1 := ?_) (by rfl) rfl ?_ ?_); (rotate_left); (· (go_simp); (rfl)); (refine hK.out _ _ ?_); (clear hK K); (refine done_ (by kernel_rfl) ?_); (have hlt2 : W.heap.size < W2.heap.size := (Array.getElem?_eq_some_iff.1 HB2.out).1); (clear g0_0 g0_1 g0_2 g1_0 g1_1 g1_2 hl0 he hl1 hs); (have z0 : W2.cell? ⟨W.heap.size, 0, none⟩ = some (.int .i32 r) := (Lib.cell_of_heap HB2.out 0).trans rfl); (have z1 : W2.cell? ⟨W.heap.size, 1, none⟩ = some (.int .i32 a) := (Lib.cell_of_heap HB2.out 1).trans rfl); (have z2 : W2.cell? ⟨W.heap.size, 2, none⟩ = some (.int .i32 b) := (Lib.cell_of_heap HB2.out 2).trans rfl); (have z3 : W2.cell? ⟨W.heap.size, 3, none⟩ = some (.bool false) := (Lib.cell_of_heap HB2.out 3).trans rfl); (have hm1 := may_calls a W2 (HT.out _ HG2.out))
    cases hfa : mayF a with
    | false =>
      (rw [hfa] at hm1); (go_wp2_with fail); (refine hm1.mono ?_); (rintro e w6 ⟨rfl, hb6⟩); (have HB6 := Lib.hid ((hb6.block W.heap.size (hlt2)).trans HB2.out)); (have HG6 := Lib.hid (Lib.grownBy_below HG2.out hb6)); (have HI6 := Lib.hid (HI2.out.below hb6)); (have hl6 : W.heap.size < w6.heap.size := (Array.getElem?_eq_some_iff.1 HB6.out).1); (clear hb6 hm1); (have z0 : w6.cell? ⟨W.heap.size, 0, none⟩ = some (.int .i32 r) := (Lib.cell_of_heap HB6.out 0).trans rfl); (have z1 : w6.cell? ⟨W.heap.size, 1, none⟩ = some (.int .i32 a) := (Lib.cell_of_heap HB6.out 1).trans rfl); (have z2 : w6.cell? ⟨W.heap.size, 2, none⟩ = some (.int .i32 b) := (Lib.cell_of_heap HB6.out 2).trans rfl); (have z3 : w6.cell? ⟨W.heap.size, 3, none⟩ = some (.bool false) := (Lib.cell_of_heap HB6.out 3).trans rfl); (go_wp2); (go_ret); (exact ⟨by rw [HPF.out]; simp [pairFine, hfa], HI6.out, HG6.out⟩)
    | true =>
      (rw [hfa] at hm1); (go_wp2_with fail); (refine hm1.mono ?_); (rintro e w6 ⟨rfl, hb6⟩); (have HB6 := Lib.hid ((hb6.block W.heap.size (hlt2)).trans HB2.out)); (have HG6 := Lib.hid (Lib.grownBy_below HG2.out hb6)); (have HI6 := Lib.hid (HI2.out.below hb6)); (have hl6 : W.heap.size < w6.heap.size := (Array.getElem?_eq_some_iff.1 HB6.out).1); (clear hb6 hm1); (have z0 : w6.cell? ⟨W.heap.size, 0, none⟩ = some (.int .i32 r) := (Lib.cell_of_heap HB6.out 0).trans rfl); (have z1 : w6.cell? ⟨W.heap.size, 1, none⟩ = some (.int .i32 a) := (Lib.cell_of_heap HB6.out 1).trans rfl); (have z2 : w6.cell? ⟨W.heap.size, 2, none⟩ = some (.int .i32 b) := (Lib.cell_of_heap HB6.out 2).trans rfl); (have z3 : w6.cell? ⟨W.heap.size, 3, none⟩ = some (.bool false) := (Lib.cell_of_heap HB6.out 3).trans rfl); (have hm2 := may_calls b w6 (HT.out _ HG6.out))
      cases hfb : mayF b with
      | false =>
        (rw [hfb] at hm2); (go_wp2_with fail); (refine hm2.mono ?_); (rintro e w7 ⟨rfl, hb7⟩); (have HB7 := Lib.hid ((hb7.block W.heap.size (hl6)).trans HB6.out)); (have HG7 := Lib.hid (Lib.grownBy_below HG6.out hb7)); (have HI7 := Lib.hid (HI6.out.below hb7)); (have hl7 : W.heap.size < w7.heap.size := (Array.getElem?_eq_some_iff.1 HB7.out).1); (clear hb7 hm2); (have z0 : w7.cell? ⟨W.heap.size, 0, none⟩ = some (.int .i32 r) := (Lib.cell_of_heap HB7.out 0).trans rfl); (have z1 : w7.cell? ⟨W.heap.size, 1, none⟩ = some (.int .i32 a) := (Lib.cell_of_heap HB7.out 1).trans rfl); (have z2 : w7.cell? ⟨W.heap.size, 2, none⟩ = some (.int .i32 b) := (Lib.cell_of_heap HB7.out 2).trans rfl); (have z3 : w7.cell? ⟨W.heap.size, 3, none⟩ = some (.bool false) := (Lib.cell_of_heap HB7.out 3).trans rfl); (go_wp2); (go_ret); (exact ⟨by rw [HPF.out]; simp [pairFine, hfb], HI7.out, HG7.out⟩)
      | true =>
        (rw [hfb] at hm2); (go_wp2_with fail); (refine hm2.mono ?_); (rintro e w7 ⟨rfl, hb7⟩); (have HB7 := Lib.hid ((hb7.block W.heap.size (hl6)).trans HB6.out)); (have HG7 := Lib.hid (Lib.grownBy_below HG6.out hb7)); (have HI7 := Lib.hid (HI6.out.below hb7)); (have hl7 : W.heap.size < w7.heap.size := (Array.getElem?_eq_some_iff.1 HB7.out).1); (clear hb7 hm2); (have z0 : w7.cell? ⟨W.heap.size, 0, none⟩ = some (.int .i32 r) := (Lib.cell_of_heap HB7.out 0).trans rfl); (have z1 : w7.cell? ⟨W.heap.size, 1, none⟩ = some (.int .i32 a) := (Lib.cell_of_heap HB7.out 1).trans rfl); (have z2 : w7.cell? ⟨W.heap.size, 2, none⟩ = some (.int .i32 b) := (Lib.cell_of_heap HB7.out 2).trans rfl); (have z3 : w7.cell? ⟨W.heap.size, 3, none⟩ = some (.bool false) := (Lib.cell_of_heap HB7.out 3).trans rfl)
        by_cases c1 : a < r
        · by_cases c2 : b < r
          · by_cases c3 : b = 0
            · have c3z : (b != 0) = false := by rw [c3]; rfl
              (have c3y : (b == 0) = true := by rw [c3]; rfl); (have C := Lib.hid (And.intro c1 c2)); (go_wp2); (go_ret); (exact ⟨by rw [HPF.out]; simp [pairFine, hfa, hfb, C.out.1, C.out.2, c3y], HI7.out, HG7.out⟩)
            · have c3z : (b != 0) = true := bne_iff_ne.2 c3
              (have c3y : (b == 0) = false := beq_eq_false_iff_ne.2 c3); (have C := Lib.hid (And.intro c1 c2)); (go_wp2); (go_ret); (exact ⟨by rw [HPF.out]; simp [pairFine, hfa, hfb, C.out.1, C.out.2, c3y], HI7.out, HG7.out⟩)
          · have HF := Lib.hid (show PF = false from by rw [HPF.out]; unfold pairFine; show (mayF a && (mayF b && (decide (a < r) && (decide (b < r) && _)))) = false; rw [show decide (b < r) = false from decide_eq_false c2]; simp)
            (go_wp2); (go_ret); (exact ⟨by rw [HF.out]; rfl, HI7.out, HG7.out⟩)
        · have HF := Lib.hid (show PF = false from by rw [HPF.out]; unfold pairFine; show (mayF a && (mayF b && (decide (a < r) && (decide (b < r) && _)))) = false; rw [show decide (a < r) = false from decide_eq_false c1]; simp)
          (go_wp2); (go_ret); (exact ⟨by rw [HF.out]; rfl, HI7.out, HG7.out⟩)
end Go.Proofs.YtmjnipifpeehgaaDoor.Q
