/- The stable sort of fields, walked: merging where the right side is a single one. -/
import Derived.Test.YtmjnipifpeehgaaDoorSRsD
set_option linter.unusedSimpArgs false
set_option linter.unusedVariables false
namespace Go.Proofs.YtmjnipifpeehgaaDoor.Q.I
open Go.RowKit Go.Proofs.YtmjnipifpeehgaaDoorW.PrintWords Go.Proofs.YtmjnipifpeehgaaDoorW.PrintLast Go.Proofs.YtmjnipifpeehgaaDoorW.PrintMore Go.Sort Go.Proofs.YtmjnipifpeehgaaDoor.St Go.Proofs.YtmjnipifpeehgaaDoor.Q
set_option maxHeartbeats 8000000 in
set_option maxRecDepth 100000 in
theorem symOneR_calls (base g o cap : Nat) (qz : Array Value) (hg : base ≤ g) (fq : Nat) (lb : Array Value) (c : Int → Int → Int) (eg : ∀ args w, (callFunc fq args).run Tryd.prog w = .ok (.enter fq args) w) (d0 : Array Int) (a m b : Nat) (w : World) (hcmp : CmpF base w fq lb c)
    (hbw : base ≤ w.heap.size) (hR : RowA g o qz w d0) (hm1 : m - a ≠ 1) (ham : a ≤ m) (hmb : b - m = 1) (hb : b ≤ d0.size) (hn : d0.size ≤ 1099511627776) :
    Calls Tryd.prog 70 #[.slice (some ⟨g, o, none⟩) d0.size cap, .int .i64 a, .int .i64 m, .int .i64 b, .func (.func fq) #[] lb] w fun e w' => e = .returned (.tuple #[]) ∧ RowA g o qz w' (mvDn (m - bs (fun h => !ltF c d0[m]! d0[h]!) (m - a + 1) a m) m d0) ∧ Below base w w' := by
  have HR := Lib.hid hR
  have HB0 := Lib.hid (Below.refl base w)
  have HC := Lib.hid hcmp
  obtain ⟨N, hN⟩ : ∃ N, N = d0.size := ⟨_, rfl⟩
  rw [← hN] at hb hn ⊢
  have HN := Lib.hid hN
  have e0 : (IntKind.i64.wrap ((m : Int) - (a : Int)) == 1) = false := by rw [wrap_small _ (by omega) (by omega)]; exact beq_eq_false_iff_ne.2 (by omega)
  have e1 : (IntKind.i64.wrap ((b : Int) - (m : Int)) == 1) = true := by rw [wrap_small _ (by omega) (by omega)]; exact beq_iff_eq.2 (by omega)
  have z0 : ¬ (m : Int) - (a : Int) = 1 := by omega
  obtain ⟨p, hp⟩ : ∃ p : Nat → Bool, p = fun h => !ltF c d0[m]! d0[h]! := ⟨_, rfl⟩
  rw [← hp]
  have HP := Lib.hid hp
  have hbsp := bs_spec p (m - a + 1) a m ham (by omega)
  obtain ⟨I, hI⟩ : ∃ I, I = bs p (m - a + 1) a m := ⟨_, rfl⟩
  rw [← hI] at hbsp ⊢
  have hib : a ≤ I ∧ I ≤ m := ⟨hbsp.1, hbsp.2.1⟩
  have HI := Lib.hid hI
  clear hbsp hI
  have hab : m + 1 = b := by omega
  clear hR hcmp hN hp
  go_enter Tryd.func70, Tryd.ntmps70
  go_wp2
  clear e0 e1 z0
  go_loopg [14, 15] (m - a) (fun gg v14 v15 wr => ∃ (i j f : Nat), a ≤ i ∧ i ≤ j ∧ j ≤ m ∧ j - i < f ∧ j - i ≤ gg ∧ v14 = .int .i64 i ∧ v15 = .int .i64 j ∧ Hid (bs p f i j = I) ∧ Hid (RowA g o qz wr d0) ∧ Hid (Below base w wr))
  case atStart => exact ⟨a, m, m - a + 1, Nat.le_refl _, ham, Nat.le_refl _, by omega, Nat.le_refl _, rfl, rfl, Lib.hid HI.out.symm, HR, HB0⟩
  case round =>
    (clear HR HB0 HI); (obtain ⟨i, j, f, q1, q2, q3, q4, q5, rfl, rfl, HD, HR, HB⟩ := hrel)
    by_cases hij : i < j
    · have hijz : (i : Int) < (j : Int) := by omega
      (obtain ⟨Y, eY⟩ : ∃ Y, Y = (i + j) / 2 := ⟨_, rfl⟩); (obtain ⟨X, eX⟩ : ∃ X, X = m := ⟨_, rfl⟩); (have hh : ((i : Int) + (j : Int)) / 2 = (Y : Int) := by omega); (have hxb : a ≤ Y ∧ i ≤ Y ∧ Y < j ∧ Y + 1 ≤ j := by omega); (have HGO := Lib.hid (bs_go p f i j (by omega) hij)); (rw [← eY] at HGO); (have hPX : p Y = !ltF c d0[X]! d0[Y]! := by rw [HP.out, eX]); (subst eX); (clear eY); (have : True := trivial); (have hX : X < d0.size := by rw [← HN.out]; omega); (have hY : Y < d0.size := by rw [← HN.out]; omega); (have lx : X < N := by omega); (have ly : Y < N := by omega); (have zx : 0 ≤ (X : Int) := by omega); (have zy : 0 ≤ (Y : Int) := by omega); (have kx : (X : Int) < (N : Int) := by omega); (have ky : (Y : Int) < (N : Int) := by omega); (obtain ⟨u, eU⟩ : ∃ u, d0[X]! = u := ⟨_, rfl⟩); (obtain ⟨v, eV⟩ : ∃ v, d0[Y]! = v := ⟨_, rfl⟩); (have hgd : g < wr.drew.heap.size := HR.out.lt); (have hRD := Aside0.mk (show RowA g o qz wr.drew d0 from ⟨HR.out.row, trivial⟩)); (have hBD := Aside0.mk (show Below base w wr.drew from HB.out.drew)); (have hc0 := hRD.out.cell hX eU); (have hc2 := hRD.out.cell hY eV); (have pu := hRD.out.el hX eU); (have pv := hRD.out.el hY eV); (rw [eU, eV] at hPX); (have nx1 : j - (Y + 1) < f - 1 ∧ j - (Y + 1) ≤ gk - 1 := by omega); (have nx2 : Y - i < f - 1 ∧ Y - i ≤ gk - 1 := by omega); (have mea : gk - 1 < gk := by omega); (clear HR HB)
      cases hlt2 : ltF c u v with
      | true =>
        (have hcl : decide (c u v < 0) = true := hlt2); (have HD2 := Lib.hid (show bs p (f - 1) i Y = I by rw [← HD.out, HGO.out, hPX, hlt2, if_neg (by decide)])); (clear HD HGO hPX hlt2); (go_wp2_with fail)
        -- REGION symCmpB1
        refine start_ (n := 12) (S := fun w' => w'.cell? ⟨g, o + X, none⟩ = some (.int .i32 u) ∧ w'.cell? ⟨g, o + Y, none⟩ = some (.int .i32 v)) (ds := []) #[false, false, false, false, false, false, false, false, false, false, false, false] (by kernel_rfl) rfl rfl ⟨(hc0), (hc2)⟩ (fun hHeld => ?_)
        generalize wr.drew = WD at *
        refine pure_ (i := 0) (N := some 92) (v := ?_) (a' := ?_) #[true, false, false, false, false, false, false, false, false, false, false, false] rfl rfl (by kernel_rfl) (fun _ _ _ h => h) (Or.inl ⟨by rfl, ?_⟩) ?_ ?_
        (rotate_left); (· (intro w'); (go_simp); (with_reducible rfl)); (rotate_left); (· (simp only [Act.put, List.setIfInBounds_toArray, List.set_cons_zero, List.set_cons_succ, i64_w, i32_w]); (rfl))
        refine pure_ (i := 1) (N := some 93) (v := ?_) (a' := ?_) #[true, true, false, false, false, false, false, false, false, false, false, false] rfl rfl (by kernel_rfl) (fun _ _ _ h => h) (Or.inl ⟨by rfl, ?_⟩) ?_ ?_
        (rotate_left); (· (intro w'); (go_simp); (with_reducible rfl)); (rotate_left); (· (simp only [Act.put, List.setIfInBounds_toArray, List.set_cons_zero, List.set_cons_succ, i64_w, i32_w]); (rfl))
        refine pure_ (i := 2) (N := some 94) (v := ?_) (a' := ?_) #[true, true, true, false, false, false, false, false, false, false, false, false] rfl rfl (by kernel_rfl) (fun _ _ _ h => h) (Or.inl ⟨by rfl, ?_⟩) ?_ ?_
        (rotate_left); (· (intro w'); (go_simp); (with_reducible rfl)); (rotate_left); (· (simp only [Act.put, List.setIfInBounds_toArray, List.set_cons_zero, List.set_cons_succ, i64_w, i32_w]); (rfl))
        refine pure_ (i := 3) (N := some 95) (v := ?_) (a' := ?_) #[true, true, true, true, false, false, false, false, false, false, false, false] rfl rfl (by kernel_rfl) (fun _ _ _ h => h) (Or.inl ⟨by rfl, ?_⟩) ?_ ?_
        (rotate_left); (· (intro w'); (go_simp); (with_reducible rfl)); (rotate_left); (· (simp only [Act.put, List.setIfInBounds_toArray, List.set_cons_zero, List.set_cons_succ, i64_w, i32_w]); (rfl))
        refine pure_ (i := 5) (N := some 97) (v := ?_) (a' := ?_) #[true, true, true, true, false, true, false, false, false, false, false, false] rfl rfl (by kernel_rfl) (fun _ _ _ h => h) (Or.inl ⟨by rfl, ?_⟩) ?_ ?_
        (rotate_left); (· (intro w'); (go_simp); (with_reducible rfl)); (rotate_left); (· (simp only [Act.put, List.setIfInBounds_toArray, List.set_cons_zero, List.set_cons_succ, i64_w, i32_w]); (rfl))
        refine pure_ (i := 6) (N := some 98) (v := ?_) (a' := ?_) #[true, true, true, true, false, true, true, false, false, false, false, false] rfl rfl (by kernel_rfl) (fun _ _ _ h => h) (Or.inl ⟨by rfl, ?_⟩) ?_ ?_
        (rotate_left); (· (intro w'); (go_simp); (with_reducible rfl)); (rotate_left); (· (simp only [Act.put, List.setIfInBounds_toArray, List.set_cons_zero, List.set_cons_succ, i64_w, i32_w]); (rfl))
        refine pure_ (i := 7) (N := some 99) (v := ?_) (a' := ?_) #[true, true, true, true, false, true, true, true, false, false, false, false] rfl rfl (by kernel_rfl) (fun _ _ _ h => h) (Or.inl ⟨by rfl, ?_⟩) ?_ ?_
        (rotate_left); (· (intro w'); (go_simp); (with_reducible rfl)); (rotate_left); (· (simp only [Act.put, List.setIfInBounds_toArray, List.set_cons_zero, List.set_cons_succ, i64_w, i32_w]); (rfl))
        refine take_ (i := 4) (N := some 96) (v := ?_) (a' := ?_) #[true, true, true, true, true, true, true, true, false, false, false, false] rfl rfl (by kernel_rfl) (fun _ _ _ h => h) (Or.inl ⟨by rfl, ?_⟩) hHeld ?_ ?_
        (rotate_left); (· (rintro w' ⟨s0, s2⟩); (go_simp); (with_reducible rfl)); (rotate_left); (· (simp only [Act.put, List.setIfInBounds_toArray, List.set_cons_zero, List.set_cons_succ, i64_w, i32_w]); (rfl))
        refine take_ (i := 8) (N := some 100) (v := ?_) (a' := ?_) #[true, true, true, true, true, true, true, true, true, false, false, false] rfl rfl (by kernel_rfl) (fun _ _ _ h => h) (Or.inl ⟨by rfl, ?_⟩) hHeld ?_ ?_
        (rotate_left); (· (rintro w' ⟨s0, s2⟩); (go_simp); (with_reducible rfl)); (rotate_left); (· (simp only [Act.put, List.setIfInBounds_toArray, List.set_cons_zero, List.set_cons_succ, i64_w, i32_w]); (rfl))
        refine one_ (i := 9) (N := some 101) #[true, true, true, true, true, true, true, true, true, true, false, false] rfl rfl (by kernel_rfl) (by decide) (fun K hK => ?_)
        refine call_ fq (#[.int .i32 u, .int .i32 v] ++ lb) (by rfl) rfl ?_ ?_
        · go_simp
          try rfl
        (with_reducible refine (HC.out _ u v hBD.out pu.out pv.out).mono ?_); (rintro e w3 ⟨rfl, hb⟩); (refine ⟨_, rfl, ?_⟩); (have HBB := Aside0.mk hb); (clear hb)
        refine hK.out _ _ ⟨((HBB.out.cell hgd).trans hc0), ((HBB.out.cell hgd).trans hc2)⟩ (fun hHeld => ?_)
        (clear hK K); (refine norm_ (a' := ?_) ?_ ?_); (rotate_left); (· (show Act.put _ (some 101) _ = _); (simp only [Act.put, List.setIfInBounds_toArray, List.set_cons_zero, List.set_cons_succ, i64_w, i32_w]); (rfl))
        refine pure_ (i := 10) (N := some 102) (v := ?_) (a' := ?_) #[true, true, true, true, true, true, true, true, true, true, true, false] rfl rfl (by kernel_rfl) (fun _ _ _ h => h) (Or.inl ⟨by rfl, ?_⟩) ?_ ?_
        (rotate_left); (· (intro w'); (go_simp); (with_reducible rfl)); (rotate_left); (· (simp only [Act.put, List.setIfInBounds_toArray, List.set_cons_zero, List.set_cons_succ, i64_w, i32_w]); (rfl))
        refine pure_ (i := 11) (N := some 103) (v := ?_) (a' := ?_) #[true, true, true, true, true, true, true, true, true, true, true, true] rfl rfl (by kernel_rfl) (fun _ _ _ h => h) (Or.inl ⟨by rfl, ?_⟩) ?_ ?_
        (rotate_left); (· (intro w'); (go_simp); (with_reducible rfl)); (rotate_left); (· (simp only [Act.put, List.setIfInBounds_toArray, List.set_cons_zero, List.set_cons_succ, i64_w, i32_w]); (rfl)); (refine done_ (by kernel_rfl) ?_)
        -- END REGION symCmpB1
        (have hR3 := Aside0.mk (hRD.out.below HBB.out)); (have hB3 := Aside0.mk (hBD.out.trans (HBB.out.mono (Nat.le_trans hbw hBD.out.size)))); (clear hRD hBD HBB hHeld hgd hc0 hc2); (go_wp2); (go_roundg (gk - 1))
        case measure => exact mea
        case rel => exact ⟨i, Y, f - 1, q1, by omega, by omega, nx2.1, nx2.2, rfl, rfl, HD2, Lib.hid hR3.out, Lib.hid hB3.out⟩
      | false =>
        (have hcl : decide (c u v < 0) = false := hlt2); (have HD2 := Lib.hid (show bs p (f - 1) (Y + 1) j = I by rw [← HD.out, HGO.out, hPX, hlt2, if_pos (by decide)])); (clear HD HGO hPX hlt2); (go_wp2_with fail)
        -- REGION symCmpB2
        refine start_ (n := 12) (S := fun w' => w'.cell? ⟨g, o + X, none⟩ = some (.int .i32 u) ∧ w'.cell? ⟨g, o + Y, none⟩ = some (.int .i32 v)) (ds := []) #[false, false, false, false, false, false, false, false, false, false, false, false] (by kernel_rfl) rfl rfl ⟨(hc0), (hc2)⟩ (fun hHeld => ?_)
        generalize wr.drew = WD at *
        refine pure_ (i := 0) (N := some 92) (v := ?_) (a' := ?_) #[true, false, false, false, false, false, false, false, false, false, false, false] rfl rfl (by kernel_rfl) (fun _ _ _ h => h) (Or.inl ⟨by rfl, ?_⟩) ?_ ?_
        (rotate_left); (· (intro w'); (go_simp); (with_reducible rfl)); (rotate_left); (· (simp only [Act.put, List.setIfInBounds_toArray, List.set_cons_zero, List.set_cons_succ, i64_w, i32_w]); (rfl))
        refine pure_ (i := 1) (N := some 93) (v := ?_) (a' := ?_) #[true, true, false, false, false, false, false, false, false, false, false, false] rfl rfl (by kernel_rfl) (fun _ _ _ h => h) (Or.inl ⟨by rfl, ?_⟩) ?_ ?_
        (rotate_left); (· (intro w'); (go_simp); (with_reducible rfl)); (rotate_left); (· (simp only [Act.put, List.setIfInBounds_toArray, List.set_cons_zero, List.set_cons_succ, i64_w, i32_w]); (rfl))
        refine pure_ (i := 2) (N := some 94) (v := ?_) (a' := ?_) #[true, true, true, false, false, false, false, false, false, false, false, false] rfl rfl (by kernel_rfl) (fun _ _ _ h => h) (Or.inl ⟨by rfl, ?_⟩) ?_ ?_
        (rotate_left); (· (intro w'); (go_simp); (with_reducible rfl)); (rotate_left); (· (simp only [Act.put, List.setIfInBounds_toArray, List.set_cons_zero, List.set_cons_succ, i64_w, i32_w]); (rfl))
        refine pure_ (i := 3) (N := some 95) (v := ?_) (a' := ?_) #[true, true, true, true, false, false, false, false, false, false, false, false] rfl rfl (by kernel_rfl) (fun _ _ _ h => h) (Or.inl ⟨by rfl, ?_⟩) ?_ ?_
        (rotate_left); (· (intro w'); (go_simp); (with_reducible rfl)); (rotate_left); (· (simp only [Act.put, List.setIfInBounds_toArray, List.set_cons_zero, List.set_cons_succ, i64_w, i32_w]); (rfl))
        refine pure_ (i := 5) (N := some 97) (v := ?_) (a' := ?_) #[true, true, true, true, false, true, false, false, false, false, false, false] rfl rfl (by kernel_rfl) (fun _ _ _ h => h) (Or.inl ⟨by rfl, ?_⟩) ?_ ?_
        (rotate_left); (· (intro w'); (go_simp); (with_reducible rfl)); (rotate_left); (· (simp only [Act.put, List.setIfInBounds_toArray, List.set_cons_zero, List.set_cons_succ, i64_w, i32_w]); (rfl))
        refine pure_ (i := 6) (N := some 98) (v := ?_) (a' := ?_) #[true, true, true, true, false, true, true, false, false, false, false, false] rfl rfl (by kernel_rfl) (fun _ _ _ h => h) (Or.inl ⟨by rfl, ?_⟩) ?_ ?_
        (rotate_left); (· (intro w'); (go_simp); (with_reducible rfl)); (rotate_left); (· (simp only [Act.put, List.setIfInBounds_toArray, List.set_cons_zero, List.set_cons_succ, i64_w, i32_w]); (rfl))
        refine pure_ (i := 7) (N := some 99) (v := ?_) (a' := ?_) #[true, true, true, true, false, true, true, true, false, false, false, false] rfl rfl (by kernel_rfl) (fun _ _ _ h => h) (Or.inl ⟨by rfl, ?_⟩) ?_ ?_
        (rotate_left); (· (intro w'); (go_simp); (with_reducible rfl)); (rotate_left); (· (simp only [Act.put, List.setIfInBounds_toArray, List.set_cons_zero, List.set_cons_succ, i64_w, i32_w]); (rfl))
        refine take_ (i := 4) (N := some 96) (v := ?_) (a' := ?_) #[true, true, true, true, true, true, true, true, false, false, false, false] rfl rfl (by kernel_rfl) (fun _ _ _ h => h) (Or.inl ⟨by rfl, ?_⟩) hHeld ?_ ?_
        (rotate_left); (· (rintro w' ⟨s0, s2⟩); (go_simp); (with_reducible rfl)); (rotate_left); (· (simp only [Act.put, List.setIfInBounds_toArray, List.set_cons_zero, List.set_cons_succ, i64_w, i32_w]); (rfl))
        refine take_ (i := 8) (N := some 100) (v := ?_) (a' := ?_) #[true, true, true, true, true, true, true, true, true, false, false, false] rfl rfl (by kernel_rfl) (fun _ _ _ h => h) (Or.inl ⟨by rfl, ?_⟩) hHeld ?_ ?_
        (rotate_left); (· (rintro w' ⟨s0, s2⟩); (go_simp); (with_reducible rfl)); (rotate_left); (· (simp only [Act.put, List.setIfInBounds_toArray, List.set_cons_zero, List.set_cons_succ, i64_w, i32_w]); (rfl))
        refine one_ (i := 9) (N := some 101) #[true, true, true, true, true, true, true, true, true, true, false, false] rfl rfl (by kernel_rfl) (by decide) (fun K hK => ?_)
        refine call_ fq (#[.int .i32 u, .int .i32 v] ++ lb) (by rfl) rfl ?_ ?_
        · go_simp
          try rfl
        (with_reducible refine (HC.out _ u v hBD.out pu.out pv.out).mono ?_); (rintro e w3 ⟨rfl, hb⟩); (refine ⟨_, rfl, ?_⟩); (have HBB := Aside0.mk hb); (clear hb)
        refine hK.out _ _ ⟨((HBB.out.cell hgd).trans hc0), ((HBB.out.cell hgd).trans hc2)⟩ (fun hHeld => ?_)
        (clear hK K); (refine norm_ (a' := ?_) ?_ ?_); (rotate_left); (· (show Act.put _ (some 101) _ = _); (simp only [Act.put, List.setIfInBounds_toArray, List.set_cons_zero, List.set_cons_succ, i64_w, i32_w]); (rfl))
        refine pure_ (i := 10) (N := some 102) (v := ?_) (a' := ?_) #[true, true, true, true, true, true, true, true, true, true, true, false] rfl rfl (by kernel_rfl) (fun _ _ _ h => h) (Or.inl ⟨by rfl, ?_⟩) ?_ ?_
        (rotate_left); (· (intro w'); (go_simp); (with_reducible rfl)); (rotate_left); (· (simp only [Act.put, List.setIfInBounds_toArray, List.set_cons_zero, List.set_cons_succ, i64_w, i32_w]); (rfl))
        refine pure_ (i := 11) (N := some 103) (v := ?_) (a' := ?_) #[true, true, true, true, true, true, true, true, true, true, true, true] rfl rfl (by kernel_rfl) (fun _ _ _ h => h) (Or.inl ⟨by rfl, ?_⟩) ?_ ?_
        (rotate_left); (· (intro w'); (go_simp); (with_reducible rfl)); (rotate_left); (· (simp only [Act.put, List.setIfInBounds_toArray, List.set_cons_zero, List.set_cons_succ, i64_w, i32_w]); (rfl)); (refine done_ (by kernel_rfl) ?_)
        -- END REGION symCmpB2
        (have hR3 := Aside0.mk (hRD.out.below HBB.out)); (have hB3 := Aside0.mk (hBD.out.trans (HBB.out.mono (Nat.le_trans hbw hBD.out.size)))); (clear hRD hBD HBB hHeld hgd hc0 hc2); (go_wp2); (go_roundg (gk - 1))
        case measure => exact mea
        case rel => exact ⟨Y + 1, j, f - 1, by omega, by omega, q3, nx1.1, nx1.2, by first | rfl | go_num, rfl, HD2, Lib.hid hR3.out, Lib.hid hB3.out⟩
    · have hijz : ¬ (i : Int) < (j : Int) := by omega
      (have hiI : I = i := ((bs_end p f i j (by omega) hij).symm.trans HD.out).symm); (subst hiI); (clear HD q4 q5); (go_wp2)
      go_loopg [17] (m - I) (fun gg v17 wr => ∃ (k : Nat) (d : Array Int), I ≤ k ∧ k ≤ m ∧ k - I ≤ gg ∧ v17 = .int .i64 k ∧ Hid (d.size = N) ∧ Hid (mvDn (k - I) k d = mvDn (m - I) m d0) ∧ Hid (RowA g o qz wr d) ∧ Hid (Below base w wr))
      case atStart => exact ⟨m, d0, by omega, Nat.le_refl _, Nat.le_refl _, rfl, Lib.hid HN.out.symm, Lib.hid rfl, HR, HB⟩
      case round =>
        (clear HR HB); (obtain ⟨X, d, k1, k2, k3, rfl, HS, HD, HR, HB⟩ := hrel)
        by_cases hk : I < X
        · obtain ⟨Y, eY⟩ : ∃ Y, Y = X - 1 := ⟨_, rfl⟩
          (have hkz : decide ((I : Int) < (X : Int)) = true := decide_eq_true (by omega)); (have hkz2 : (I : Int) < (X : Int) := by omega)
          have HD2 := Lib.hid (show mvDn (Y - I) Y (swp d X Y) = mvDn (m - I) m d0 by
            rw [← HD.out, show X - I = (Y - I) + 1 by omega, mvDn, eY])
          (have nxt : I ≤ Y ∧ Y ≤ m ∧ Y - I ≤ gk - 1 ∧ gk - 1 < gk := by omega); (have hX : X < d.size := by rw [HS.out]; omega); (have hY : Y < d.size := by rw [HS.out]; omega); (have lx : X < N := by omega); (have ly : Y < N := by omega); (have zx : 0 ≤ (X : Int) := by omega); (have zy : 0 ≤ (Y : Int) := by omega); (have kx : (X : Int) < (N : Int) := by omega); (have ky : (Y : Int) < (N : Int) := by omega); (obtain ⟨u, eU⟩ : ∃ u, d[X]! = u := ⟨_, rfl⟩); (obtain ⟨v, eV⟩ : ∃ v, d[Y]! = v := ⟨_, rfl⟩); (have hRD := Aside0.mk (show RowA g o qz wr.drew d from ⟨HR.out.row, trivial⟩)); (have hBD := Aside0.mk (show Below base w wr.drew from HB.out.drew)); (have hc0 := hRD.out.cell hX eU); (have hc2 := hRD.out.cell hY eV); (have pu := hRD.out.el hX eU); (have pv := hRD.out.el hY eV); (have hz : ∀ q, wr.drew.frozen? ⟨g, q, none⟩ = false := hRD.out.frozen); (have wy : IntKind.i64.wrap ((X : Int) - 1) = (Y : Int) := (wrap_small _ (by omega) (by omega)).trans (by omega)); (clear eY HD HR HB); (go_wp2_with fail)
          -- REGION symSwapB
          refine start_ (n := 18) (S := fun w' => w'.cell? ⟨g, o + X, none⟩ = some (.int .i32 u) ∧ w'.cell? ⟨g, o + Y, none⟩ = some (.int .i32 v)) (ds := [15, 17]) #[false, false, false, false, false, false, false, false, false, false, false, false, false, false, false, false, false, false] (by kernel_rfl) rfl rfl ⟨(hc0), (hc2)⟩ (fun hHeld => ?_)
          generalize wr.drew = WD at *
          refine pure_ (i := 0) (N := some 113) (v := ?_) (a' := ?_) #[true, false, false, false, false, false, false, false, false, false, false, false, false, false, false, false, false, false] rfl rfl (by kernel_rfl) (fun _ _ _ h => h) (Or.inl ⟨by rfl, ?_⟩) ?_ ?_
          (rotate_left); (· (intro w'); (go_simp); (with_reducible rfl)); (rotate_left); (· (simp only [Act.put, List.setIfInBounds_toArray, List.set_cons_zero, List.set_cons_succ, i64_w, i32_w]); (rfl))
          refine pure_ (i := 1) (N := some 114) (v := ?_) (a' := ?_) #[true, true, false, false, false, false, false, false, false, false, false, false, false, false, false, false, false, false] rfl rfl (by kernel_rfl) (fun _ _ _ h => h) (Or.inl ⟨by rfl, ?_⟩) ?_ ?_
          (rotate_left); (· (intro w'); (go_simp); (with_reducible rfl)); (rotate_left); (· (simp only [Act.put, List.setIfInBounds_toArray, List.set_cons_zero, List.set_cons_succ, i64_w, i32_w]); (rfl))
          refine pure_ (i := 2) (N := some 115) (v := ?_) (a' := ?_) #[true, true, true, false, false, false, false, false, false, false, false, false, false, false, false, false, false, false] rfl rfl (by kernel_rfl) (fun _ _ _ h => h) (Or.inl ⟨by rfl, ?_⟩) ?_ ?_
          (rotate_left); (· (intro w'); (go_simp); (with_reducible rfl)); (rotate_left); (· (simp only [Act.put, List.setIfInBounds_toArray, List.set_cons_zero, List.set_cons_succ, i64_w, i32_w]); (rfl))
          refine pure_ (i := 3) (N := some 116) (v := ?_) (a' := ?_) #[true, true, true, true, false, false, false, false, false, false, false, false, false, false, false, false, false, false] rfl rfl (by kernel_rfl) (fun _ _ _ h => h) (Or.inl ⟨by rfl, ?_⟩) ?_ ?_
          (rotate_left); (· (intro w'); (go_simp); (with_reducible rfl)); (rotate_left); (· (simp only [Act.put, List.setIfInBounds_toArray, List.set_cons_zero, List.set_cons_succ, i64_w, i32_w]); (rfl))
          refine pure_ (i := 4) (N := some 117) (v := ?_) (a' := ?_) #[true, true, true, true, true, false, false, false, false, false, false, false, false, false, false, false, false, false] rfl rfl (by kernel_rfl) (fun _ _ _ h => h) (Or.inl ⟨by rfl, ?_⟩) ?_ ?_
          (rotate_left); (· (intro w'); (go_simp); (with_reducible rfl)); (rotate_left); (· (simp only [Act.put, List.setIfInBounds_toArray, List.set_cons_zero, List.set_cons_succ, i64_w, i32_w]); (rfl))
          refine pure_ (i := 5) (N := some 118) (v := ?_) (a' := ?_) #[true, true, true, true, true, true, false, false, false, false, false, false, false, false, false, false, false, false] rfl rfl (by kernel_rfl) (fun _ _ _ h => h) (Or.inl ⟨by rfl, ?_⟩) ?_ ?_
          (rotate_left); (· (intro w'); (go_simp); (with_reducible rfl)); (rotate_left); (· (simp only [Act.put, List.setIfInBounds_toArray, List.set_cons_zero, List.set_cons_succ, i64_w, i32_w]); (rfl))
          refine pure_ (i := 6) (N := some 119) (v := ?_) (a' := ?_) #[true, true, true, true, true, true, true, false, false, false, false, false, false, false, false, false, false, false] rfl rfl (by kernel_rfl) (fun _ _ _ h => h) (Or.inl ⟨by rfl, ?_⟩) ?_ ?_
          (rotate_left); (· (intro w'); (go_simp); (with_reducible rfl)); (rotate_left); (· (simp only [Act.put, List.setIfInBounds_toArray, List.set_cons_zero, List.set_cons_succ, i64_w, i32_w]); (rfl))
          refine pure_ (i := 7) (N := some 120) (v := ?_) (a' := ?_) #[true, true, true, true, true, true, true, true, false, false, false, false, false, false, false, false, false, false] rfl rfl (by kernel_rfl) (fun _ _ _ h => h) (Or.inl ⟨by rfl, ?_⟩) ?_ ?_
          (rotate_left); (· (intro w'); (go_simp); (with_reducible rfl)); (rotate_left); (· (simp only [Act.put, List.setIfInBounds_toArray, List.set_cons_zero, List.set_cons_succ, i64_w, i32_w]); (rfl))
          refine pure_ (i := 8) (N := some 121) (v := ?_) (a' := ?_) #[true, true, true, true, true, true, true, true, true, false, false, false, false, false, false, false, false, false] rfl rfl (by kernel_rfl) (fun _ _ _ h => h) (Or.inl ⟨by rfl, ?_⟩) ?_ ?_
          (rotate_left); (· (intro w'); (go_simp); (with_reducible rfl)); (rotate_left); (· (simp only [Act.put, List.setIfInBounds_toArray, List.set_cons_zero, List.set_cons_succ, i64_w, i32_w]); (rfl))
          refine pure_ (i := 10) (N := some 123) (v := ?_) (a' := ?_) #[true, true, true, true, true, true, true, true, true, false, true, false, false, false, false, false, false, false] rfl rfl (by kernel_rfl) (fun _ _ _ h => h) (Or.inl ⟨by rfl, ?_⟩) ?_ ?_
          (rotate_left); (· (intro w'); (go_simp); (with_reducible rfl)); (rotate_left); (· (simp only [Act.put, List.setIfInBounds_toArray, List.set_cons_zero, List.set_cons_succ, i64_w, i32_w]); (rfl))
          refine pure_ (i := 11) (N := some 124) (v := ?_) (a' := ?_) #[true, true, true, true, true, true, true, true, true, false, true, true, false, false, false, false, false, false] rfl rfl (by kernel_rfl) (fun _ _ _ h => h) (Or.inl ⟨by rfl, ?_⟩) ?_ ?_
          (rotate_left); (· (intro w'); (go_simp); (with_reducible rfl)); (rotate_left); (· (simp only [Act.put, List.setIfInBounds_toArray, List.set_cons_zero, List.set_cons_succ, i64_w, i32_w]); (rfl))
          refine pure_ (i := 12) (N := some 125) (v := ?_) (a' := ?_) #[true, true, true, true, true, true, true, true, true, false, true, true, true, false, false, false, false, false] rfl rfl (by kernel_rfl) (fun _ _ _ h => h) (Or.inl ⟨by rfl, ?_⟩) ?_ ?_
          (rotate_left); (· (intro w'); (go_simp); (with_reducible rfl)); (rotate_left); (· (simp only [Act.put, List.setIfInBounds_toArray, List.set_cons_zero, List.set_cons_succ, i64_w, i32_w]); (rfl))
          refine take_ (i := 9) (N := some 122) (v := ?_) (a' := ?_) #[true, true, true, true, true, true, true, true, true, true, true, true, true, false, false, false, false, false] rfl rfl (by kernel_rfl) (fun _ _ _ h => h) (Or.inl ⟨by rfl, ?_⟩) hHeld ?_ ?_
          (rotate_left); (· (rintro w' ⟨s0, s2⟩); (go_simp); (with_reducible rfl)); (rotate_left); (· (simp only [Act.put, List.setIfInBounds_toArray, List.set_cons_zero, List.set_cons_succ, i64_w, i32_w]); (rfl))
          refine take_ (i := 13) (N := some 126) (v := ?_) (a' := ?_) #[true, true, true, true, true, true, true, true, true, true, true, true, true, true, false, false, false, false] rfl rfl (by kernel_rfl) (fun _ _ _ h => h) (Or.inl ⟨by rfl, ?_⟩) hHeld ?_ ?_
          (rotate_left); (· (rintro w' ⟨s0, s2⟩); (go_simp); (with_reducible rfl)); (rotate_left); (· (simp only [Act.put, List.setIfInBounds_toArray, List.set_cons_zero, List.set_cons_succ, i64_w, i32_w]); (rfl))
          refine pure_ (i := 14) (N := some 127) (v := ?_) (a' := ?_) #[true, true, true, true, true, true, true, true, true, true, true, true, true, true, true, false, false, false] rfl rfl (by kernel_rfl) (fun _ _ _ h => h) (Or.inl ⟨by rfl, ?_⟩) ?_ ?_
          (rotate_left); (· (intro w'); (go_simp); (with_reducible rfl)); (rotate_left); (· (simp only [Act.put, List.setIfInBounds_toArray, List.set_cons_zero, List.set_cons_succ, i64_w, i32_w]); (rfl))
          refine last_ (i := 15) (N := none) #[true, true, true, true, true, true, true, true, true, true, true, true, true, true, true, true, false, false] rfl rfl (by kernel_rfl) (by decide) (fun K hK => ?_)
          (refine skip_ (w1 := ?_) (by rfl) rfl ?_ ?_); (rotate_left); (· (go_simp); (rfl)); (obtain ⟨Wa, hWa, hRa, hBa⟩ : ∃ Wa, WD.setCell ⟨g, o + X, none⟩ (.int .i32 v) = Wa ∧ RowA g o qz Wa (d.setIfInBounds X v) ∧ Below base w Wa := ⟨_, rfl, hRD.out.put X v hX pv, below_put hg hBD.out⟩); (rw [hWa]); (have hRD2 := Aside0.mk hRa); (have hBD2 := Aside0.mk hBa); (clear hWa hz hRa hBa hRD hBD); (have hz := hRD2.out.frozen); (have q0 := hRD2.out.cell (x := Y) (by rw [Array.size_setIfInBounds]; exact hY) rfl); (refine hK.out _ _ ?_); (clear hK K)
          refine pure_ (i := 16) (N := some 128) (v := ?_) (a' := ?_) #[true, true, true, true, true, true, true, true, true, true, true, true, true, true, true, true, true, false] rfl rfl (by kernel_rfl) (fun _ _ _ h => h) (Or.inl ⟨by rfl, ?_⟩) ?_ ?_
          (rotate_left); (· (intro w'); (go_simp); (with_reducible rfl)); (rotate_left); (· (simp only [Act.put, List.setIfInBounds_toArray, List.set_cons_zero, List.set_cons_succ, i64_w, i32_w]); (rfl))
          refine last_ (i := 17) (N := none) #[true, true, true, true, true, true, true, true, true, true, true, true, true, true, true, true, true, true] rfl rfl (by kernel_rfl) (by decide) (fun K hK => ?_)
          (refine skip_ (w1 := ?_) (by rfl) rfl ?_ ?_); (rotate_left); (· (go_simp); (rfl)); (obtain ⟨Wb, hWb, hRb, hBb⟩ : ∃ Wb, Wa.setCell ⟨g, o + Y, none⟩ (.int .i32 u) = Wb ∧ RowA g o qz Wb (swp d X Y) ∧ Below base w Wb := ⟨_, rfl, RowA.swap hRD2.out eU eV hY pu, below_put hg hBD2.out⟩); (rw [hWb]); (have hRW := Aside0.mk hRb); (have hBW := Aside0.mk hBb); (clear hWb hz hRb hBb hRD2 hBD2); (refine hK.out _ _ ?_); (clear hK K); (refine done_ (by kernel_rfl) ?_)
          -- END REGION symSwapB
          (go_wp2); (clear wy); (go_roundg (gk - 1))
          case measure => exact nxt.2.2.2
          case rel => exact ⟨Y, swp d X Y, nxt.1, nxt.2.1, nxt.2.2.1, rfl, Lib.hid (by rw [swp_size]; exact HS.out), HD2, Lib.hid hRW.out, Lib.hid hBW.out⟩
        · have hkz : ¬ (I : Int) < (X : Int) := by omega
          have HD2 := Lib.hid (show d = mvDn (m - I) m d0 by
            (have := HD.out); (rw [show X - I = 0 by omega] at this)
            exact this)
          (clear HD); (go_wp2)
          (try simp only [Exit.inBlock, Exit.then])
          (refine bodyPost_ret (results_none rfl _ _ _) rfl ?_); (exact ⟨rfl, by rw [← HD2.out]; exact HR.out, HB.out⟩)
end Go.Proofs.YtmjnipifpeehgaaDoor.Q.I
