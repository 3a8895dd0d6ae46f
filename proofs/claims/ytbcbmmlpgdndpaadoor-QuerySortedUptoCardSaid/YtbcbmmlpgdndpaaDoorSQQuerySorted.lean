/- Functions of the given program as plain Lean functions, each with the proof that the machine answers as it does; laid by a program of mine over the kit print. -/
import Derived.Test.YtbcbmmlpgdndpaaDoorSB4
import Derived.Test.YtbcbmmlpgdndpaaDoorSQSort
import Derived.Test.YtbcbmmlpgdndpaaDoorSQbastionlaw112
import Derived.Test.YtbcbmmlpgdndpaaDoorSQbastionref110
namespace Go.Proofs.YtbcbmmlpgdndpaaDoor.Q
open Go.RowKit Go.Proofs.YtbcbmmlpgdndpaaDoorW.PrintWords Go.Proofs.YtbcbmmlpgdndpaaDoorW.PrintLast Go.Proofs.YtbcbmmlpgdndpaaDoorW.PrintMore
attribute [local go_sem] max2_int min2_int max_two min_two max_three min_three max_four min_four
set_option linter.unusedVariables false
set_option linter.unusedSimpArgs false
mutual
def bastionlaw11_QuerySorted.j0 : Nat → List (S32) → ByteArray → List (S32) → Bool → Option (Bool)
  | 0, _, _, _, _ => none
  | k + 1, x0, x1, x5, x29 => if x29 = true then (some false) else (bastionlaw11_QuerySorted.l0 k x0 x5 (([x1] : List ByteArray)) x0 (x0.length : Int) 0)
def bastionlaw11_QuerySorted.l0 : Nat → List (S32) → List (S32) → List ByteArray → List (S32) → Int → Int → Option (Bool)
  | 0, _, _, _, _, _, _ => none
  | k + 1, x0, x5, x6, x32, x33, x34 => if x34 < x33 then (if 0 ≤ x34 then (if x34 < (x32.length : Int) then (if x34 < 20 then (if x6.length < 8796093022208 then (bastionlaw11_QuerySorted.l0 k x0 x5 (x6 ++ [(rd_T32 x32 x34).f0]) x32 x33 (wrap64 (x34 + 1))) else (none)) else (bastionlaw11_QuerySorted.l0 k x0 x5 x6 x32 x33 (wrap64 (x34 + 1)))) else (none)) else (none)) else (bastionlaw11_QuerySorted.l1 k x0 x5 x6 (x6.length : Int) 0)
def bastionlaw11_QuerySorted.l1 : Nat → List (S32) → List (S32) → List ByteArray → Int → Int → Option (Bool)
  | 0, _, _, _, _, _ => none
  | k + 1, x0, x5, x47, x48, x49 => if x49 < x48 then (if 0 ≤ x49 then (if x49 < (x47.length : Int) then (bastionlaw11_QuerySorted.l2 k x0 x5 (rdOf ByteArray.empty x47 x49) ([] : List (S32)) ([] : List (S32)) x47 x48 x49 (x0.length : Int) 0) else (none)) else (none)) else (some true)
def bastionlaw11_QuerySorted.l2 : Nat → List (S32) → List (S32) → ByteArray → List (S32) → List (S32) → List ByteArray → Int → Int → Int → Int → Option (Bool)
  | 0, _, _, _, _, _, _, _, _, _, _ => none
  | k + 1, x0, x5, x10, x11, x12, x47, x48, x49, x54, x55 => if x55 < x54 then (if 0 ≤ x55 then (if x55 < (x0.length : Int) then (if ((rd_T32 x0 x55).f0).toList = x10.toList then (if x11.length < 4398046511104 then ((some (x11 ++ [(⟨(rd_T32 x0 x55).f0, (rd_T32 x0 x55).f1⟩ : S32)] : List (S32))).bind fun y540 => (if x55 < (x5.length : Int) then (if ((rd_T32 x5 x55).f0).toList = x10.toList then (if x12.length < 4398046511104 then (bastionlaw11_QuerySorted.l2 k x0 x5 x10 y540 (x12 ++ [(⟨(rd_T32 x5 x55).f0, (rd_T32 x5 x55).f1⟩ : S32)]) x47 x48 x49 x54 (wrap64 (x55 + 1))) else (none)) else (bastionlaw11_QuerySorted.l2 k x0 x5 x10 y540 x12 x47 x48 x49 x54 (wrap64 (x55 + 1)))) else (none))) else (none)) else (if x55 < (x5.length : Int) then (if ((rd_T32 x5 x55).f0).toList = x10.toList then (if x12.length < 4398046511104 then (bastionlaw11_QuerySorted.l2 k x0 x5 x10 x11 (x12 ++ [(⟨(rd_T32 x5 x55).f0, (rd_T32 x5 x55).f1⟩ : S32)]) x47 x48 x49 x54 (wrap64 (x55 + 1))) else (none)) else (bastionlaw11_QuerySorted.l2 k x0 x5 x10 x11 x12 x47 x48 x49 x54 (wrap64 (x55 + 1)))) else (none))) else (none)) else (none)) else ((bastionref11_Same.f k x11 x12).bind fun t537 => (if t537 = true then (bastionlaw11_QuerySorted.l1 k x0 x5 x47 x48 (wrap64 (x49 + 1))) else (some false)))
end
def bastionlaw11_QuerySorted.f (k : Nat) (l0 : List (S32)) (a1 : ByteArray) : Option (Bool) := (bastionlaw11_lives.f k).bind fun t520 => (if t520 = true then ((query_Sort.f l0).bind fun t521 => (if (t521.length : Int) = (l0.length : Int) then ((query_Sort.f t521).bind fun t524 => ((bastionref11_Same.f k t524 t521).bind fun t527 => (bastionlaw11_QuerySorted.j0 k l0 a1 t521 (!t527)))) else (bastionlaw11_QuerySorted.j0 k l0 a1 t521 true))) else (some false))
set_option maxHeartbeats 8000000 in
set_option maxRecDepth 100000 in
theorem bastionlaw11_QuerySorted.calls (k : Nat) (A0 : Option Addr) (c0 : Nat) (l0 : List (S32)) (a1 : ByteArray) (r : Bool) (w : World) (hr0 : Kd.C k32 w A0 l0.length l0) (hc0 : l0.length ≤ c0) (hT : UTabs w) (h : bastionlaw11_QuerySorted.f k l0 a1 = some r) :
    Calls Tryd.prog 7 #[.slice A0 l0.length c0, .string a1] w fun e w' => e = .returned (.bool r) ∧ Below w.heap.size w w' := by
  have hu32 := Tryd.underlying32
  have HR0 := Aside0.mk hr0
  have HC0 := Aside0.mk hc0
  clear hr0 hc0
  have HB := Aside0.mk (Below.refl w.heap.size w)
  have HTB := Aside0.mk hT
  clear hT
  have H : ((bastionlaw11_lives.f k).bind fun t520 => (if t520 = true then ((query_Sort.f l0).bind fun t521 => (if (t521.length : Int) = (l0.length : Int) then ((query_Sort.f t521).bind fun t524 => ((bastionref11_Same.f k t524 t521).bind fun t527 => (bastionlaw11_QuerySorted.j0 k l0 a1 t521 (!t527)))) else (bastionlaw11_QuerySorted.j0 k l0 a1 t521 true))) else (some false))) = some r := h
  clear h
  replace H := Option.bind_eq_some_iff.mp H
  obtain ⟨t520, A30, H⟩ := H
  replace H : (if t520 = true then ((query_Sort.f l0).bind fun t521 => (if (t521.length : Int) = (l0.length : Int) then ((query_Sort.f t521).bind fun t524 => ((bastionref11_Same.f k t524 t521).bind fun t527 => (bastionlaw11_QuerySorted.j0 k l0 a1 t521 (!t527)))) else (bastionlaw11_QuerySorted.j0 k l0 a1 t521 true))) else (some false)) = some r := H
  have A3 := Aside0.mk A30
  clear A30
  by_cases c4 : t520 = true
  · subst c4
    have H1 : ((query_Sort.f l0).bind fun t521 => (if (t521.length : Int) = (l0.length : Int) then ((query_Sort.f t521).bind fun t524 => ((bastionref11_Same.f k t524 t521).bind fun t527 => (bastionlaw11_QuerySorted.j0 k l0 a1 t521 (!t527)))) else (bastionlaw11_QuerySorted.j0 k l0 a1 t521 true))) = some r := by rw [if_pos rfl] at H; exact H
    clear H
    have H := H1
    clear H1
    replace H := Option.bind_eq_some_iff.mp H
    obtain ⟨t521, A50, H⟩ := H
    replace H : (if (t521.length : Int) = (l0.length : Int) then ((query_Sort.f t521).bind fun t524 => ((bastionref11_Same.f k t524 t521).bind fun t527 => (bastionlaw11_QuerySorted.j0 k l0 a1 t521 (!t527)))) else (bastionlaw11_QuerySorted.j0 k l0 a1 t521 true)) = some r := H
    have A5 := Aside0.mk A50
    clear A50
    have HC6 := Aside0.mk H
    clear H
    go_enter Tryd.func7, Tryd.ntmps7
    go_upto_region 4 with (first | ((with_reducible refine gate_callee (f := 13) rfl ?_); refine goesL_ (some 14) rfl rfl Tryd.func13 (by kernel_rfl) rfl #[] rfl (by (try simp only [List.map_toArray, List.map_cons, List.map_nil]); first | done | rfl | (simp only [List.length_drop, List.length_take]; rfl)) ?_; (with_reducible refine (bastionlaw11_lives.calls k  true _ ?side1 A3.out).mono ?_); (case side1 => exact UTabs.below HTB.out (by repeat (first | (with_reducible first | exact HB.out | apply below_alloc | apply pw_below_drewN | apply below_drew1) | exact HB.out))); rintro e w7 ⟨rfl, hb⟩; refine ⟨_, rfl, ?_⟩; have n0_ := Aside0.mk (below_step (by repeat (first | (with_reducible first | exact HB.out | apply below_alloc | apply pw_below_drewN | apply below_drew1) | exact HB.out)) hb); clear HB; have HB := n0_; clear n0_; (try clear hb); (try clear hb2); (try clear hk); (try clear hi)) | ((with_reducible refine gate_callee (f := 19) rfl ?_); refine goesL_ (some 17) rfl rfl Tryd.func19 (by kernel_rfl) rfl #[.slice A0 l0.length c0] rfl (by (try simp only [List.map_toArray, List.map_cons, List.map_nil]); first | done | rfl | (simp only [List.length_drop, List.length_take]; rfl)) ?_; (with_reducible refine (query_Sort.calls _ _ l0 t521 _ ?side1 ?side2 ?side3 A5.out).mono ?_); (case side1 => repeat (first | exact (Kd.C_below HR0.out HB.out) | (with_reducible refine Kd.C_alloc ?_ _) | (with_reducible refine Kd.C_drewN ?_ _) | (with_reducible refine Kd.C_drew ?_))); (case side2 => exact HC0.out); (case side3 => exact UTabs.below HTB.out (by repeat (first | (with_reducible first | exact HB.out | apply below_alloc | apply pw_below_drewN | apply below_drew1) | exact HB.out))); rintro e w8 ⟨v522, rfl, ho0, hb⟩; refine ⟨_, rfl, ?_⟩; have n0_ := Aside0.mk (Kd.R_lower ho0 (below_size (by repeat (first | (with_reducible first | exact HB.out | apply below_alloc | apply pw_below_drewN | apply below_drew1) | exact HB.out)))); have n1_ := Aside0.mk (below_step (by repeat (first | (with_reducible first | exact HB.out | apply below_alloc | apply pw_below_drewN | apply below_drew1) | exact HB.out)) hb); clear HB; have HO523 := n0_; have HB := n1_; clear n0_ n1_; (try clear hb); (try clear hb2); (try clear hk); (try clear hi); (try clear ho0)))
    (try simp only [Act.put, List.setIfInBounds_toArray, List.set_cons_zero, List.set_cons_succ])
    go_cut [29] (fun v29 wc => ∃ (kq : Nat) (x29_5 : Bool), v29 = .bool x29_5 ∧ Aside0 (bastionlaw11_QuerySorted.j0 kq l0 a1 t521 x29_5 = some r) ∧ Aside0 (kq ≤ k) ∧ Aside0 (Kd.R k32 32 wc w.heap.size (fun _ => True) v522 t521) ∧ Aside0 (Below w.heap.size w wc))
    case first =>
      have H := HC6.out
      clear HC6
      by_cases c9 : (t521.length : Int) = (l0.length : Int)
      · rw [if_pos c9] at H
        have c9b0 : ((t521.length : Int) == (l0.length : Int)) = true := beq_iff_eq.mpr c9
        have c9b1 : ((t521.length : Int) != (l0.length : Int)) = false := bne_eq_false_iff_eq.mpr c9
        have c9b2 : (t521.length == l0.length) = true := by first | simpa using c9 | (simp at c9 ⊢; omega)
        clear c9
        (first | rw [c9b0] | (simp only [i64_w, i32_w]; rw [c9b0]) | skip)
        replace H := Option.bind_eq_some_iff.mp H
        obtain ⟨t524, A100, H⟩ := H
        replace H : ((bastionref11_Same.f k t524 t521).bind fun t527 => (bastionlaw11_QuerySorted.j0 k l0 a1 t521 (!t527))) = some r := H
        have A10 := Aside0.mk A100
        clear A100
        replace H := Option.bind_eq_some_iff.mp H
        obtain ⟨t527, A110, H⟩ := H
        replace H : (bastionlaw11_QuerySorted.j0 k l0 a1 t521 (!t527)) = some r := H
        have A11 := Aside0.mk A110
        clear A110
        have H' := Aside0.mk H
        clear H
        obtain ⟨Ao12, co12, eo12⟩ := Kd.R_slice HO523.out
        subst eo12
        go_wp2_with (first | (go_at_call 19; (with_reducible refine (query_Sort.calls _ _ t521 t524 _ ?side1 ?side2 ?side3 A10.out).mono ?_); (case side1 => repeat (first | exact (Kd.R_reads' HO523.out).2.2 | (with_reducible refine Kd.C_alloc ?_ _) | (with_reducible refine Kd.C_drewN ?_ _) | (with_reducible refine Kd.C_drew ?_))); (case side2 => exact (Kd.R_reads' HO523.out).2.1); (case side3 => exact UTabs.below HTB.out (by repeat (first | (with_reducible first | exact HB.out | apply below_alloc | apply pw_below_drewN | apply below_drew1) | exact HB.out))); rintro e w13 ⟨v525, rfl, ho0, hb⟩; have n0_ := Aside0.mk (Kd.R_elder' (by (with_reducible repeat (first | apply Kd.R_alloc | apply Kd.R_drewN | apply Kd.R_drew)); exact HO523.out) (Kd.R_base ho0) hb); have n1_ := Aside0.mk (Kd.R_lower (Kd.R_new' ho0 (Kd.R_lt (by (with_reducible repeat (first | apply Kd.R_alloc | apply Kd.R_drewN | apply Kd.R_drew)); exact HO523.out))) (below_size (by repeat (first | (with_reducible first | exact HB.out | apply below_alloc | apply pw_below_drewN | apply below_drew1) | exact HB.out)))); have n2_ := Aside0.mk (below_step (by repeat (first | (with_reducible first | exact HB.out | apply below_alloc | apply pw_below_drewN | apply below_drew1) | exact HB.out)) hb); clear HO523; clear HB; have HO523 := n0_; have HO526 := n1_; have HB := n2_; clear n0_ n1_ n2_; (try clear hb); (try clear hb2); (try clear hk); (try clear hi); (try clear ho0); obtain ⟨Ao14, co14, eo14⟩ := Kd.R_slice HO526.out; subst eo14) | (go_at_call 14; (with_reducible refine (bastionref11_Same.calls k _ _ t524 _ _ t521 t527 _ ?side1 ?side2 ?side3 ?side4 A11.out).mono ?_); (case side1 => repeat (first | exact (Kd.R_reads' HO526.out).2.2 | (with_reducible refine Kd.C_alloc ?_ _) | (with_reducible refine Kd.C_drewN ?_ _) | (with_reducible refine Kd.C_drew ?_))); (case side2 => exact (Kd.R_reads' HO526.out).2.1); (case side3 => repeat (first | exact (Kd.R_reads' HO523.out).2.2 | (with_reducible refine Kd.C_alloc ?_ _) | (with_reducible refine Kd.C_drewN ?_ _) | (with_reducible refine Kd.C_drew ?_))); (case side4 => exact (Kd.R_reads' HO523.out).2.1); rintro e w' ⟨rfl, ⟨nd, rfl⟩⟩))
        go_meet
        case rel => exact ⟨_, (!t527), (by first | rfl | (simp; done) | (simp [*]; done)), H', ⟨by first | omega | exact Nat.le_refl _⟩, ⟨by (with_reducible repeat (first | apply Kd.R_alloc | apply Kd.R_drewN | apply Kd.R_drew)); exact Kd.R_mono HO523.out (fun _ hk => trivial)⟩, ⟨by repeat (first | (with_reducible first | exact HB.out | apply below_alloc | apply pw_below_drewN | apply below_drew1) | exact HB.out)⟩⟩
      · rw [if_neg c9] at H
        have c9b0 : ((t521.length : Int) == (l0.length : Int)) = false := beq_eq_false_iff_ne.mpr c9
        have c9b1 : ((t521.length : Int) != (l0.length : Int)) = true := bne_iff_ne.mpr c9
        have c9b2 : (t521.length == l0.length) = false := by first | simpa using c9 | (simp at c9 ⊢; omega)
        (first | rw [c9b0] | (simp only [i64_w, i32_w]; rw [c9b0]) | skip)
        have H' := Aside0.mk H
        clear H
        obtain ⟨Ao15, co15, eo15⟩ := Kd.R_slice HO523.out
        subst eo15
        go_wp2
        go_meet
        case rel => exact ⟨_, (true), (by first | rfl | (simp; done) | (simp [*]; done)), H', ⟨by first | omega | exact Nat.le_refl _⟩, ⟨by (with_reducible repeat (first | apply Kd.R_alloc | apply Kd.R_drewN | apply Kd.R_drew)); exact HO523.out⟩, ⟨by repeat (first | (with_reducible first | exact HB.out | apply below_alloc | apply pw_below_drewN | apply below_drew1) | exact HB.out)⟩⟩
    case rest =>
      clear HC6
      try clear c1
      try clear p2
      try clear c4
      try clear c7
      try clear c9
      try clear c9b0
      try clear c9b1
      try clear c9b2
      try clear c13
      obtain ⟨kq, x29_5, rfl, HA, HJ5, HO_5, HB⟩ := hcut
      cases kq with
      | zero => exact absurd HA.out (by simp [bastionlaw11_QuerySorted.j0])
      | succ kj5 =>
        have H := HA.out
        clear HA
        simp only [bastionlaw11_QuerySorted.j0] at H
        by_cases c16 : x29_5 = true
        · subst c16
          have H1 : (some false) = some r := by rw [if_pos rfl] at H; exact H
          clear H
          have H := H1
          clear H1
          obtain rfl := Option.some.inj H
          go_wp2
          go_ret
          exact ⟨by first | rfl | (simp [errW_none, errW_some] <;> rfl) | (simp [*, errW_none, errW_some] <;> rfl), by repeat (first | (with_reducible first | exact HB.out | apply below_alloc | apply pw_below_drewN | apply below_drew1) | exact HB.out)⟩
        · replace c16 := Bool.eq_false_iff.mpr c16
          subst c16
          have H1 : (bastionlaw11_QuerySorted.l0 kj5 l0 t521 (([a1] : List ByteArray)) l0 (l0.length : Int) 0) = some r := by rw [if_neg (show ¬ (false = true) by decide)] at H; exact H
          clear H
          have H := H1
          clear H1
          obtain ⟨y528, hy528⟩ : ∃ y_ : List ByteArray, y_ = (([a1] : List ByteArray)) := ⟨_, rfl⟩
          replace H : (bastionlaw11_QuerySorted.l0 kj5 l0 t521 y528 l0 (l0.length : Int) 0) = some r := by first | (rw [hy528]; with_reducible exact H) | (have H2_ := (Option.bind_some _ _).symm.trans H; rw [hy528]; with_reducible exact H2_) | (have H2_ := (Option.bind_some _ _).symm.trans H; with_reducible exact H2_) | with_reducible exact H | (rw [hy528]; exact H) | exact H
          have Ny528 := Aside0.mk hy528
          clear hy528
          have H' := Aside0.mk H
          clear H
          go_wp2_with (first | ((with_reducible refine gate_dst (N := 31) rfl ?_); refine Kd.R_lit Kd.string _ 9 ?hg (N := 31) ?hd (xs := ([a1] : List ByteArray)) (inner := [.string a1]) (ok := fun _ => True) (okp := fun _ => True) ?hr ?hp (fun _ hk => hk) trivial (Below.refl _ _) (Nat.le_refl _) (by simp) ?_; (case hd => rfl); (case hg => rfl); (case hr => first | (go_simp; done) | (go_simp; rfl)); (case hp => exact (Reps.one (show Kd.M Kd.string _ _ _ a1 [.string a1] from rfl) (Reps.none _ _))); intro v529 w17 ho18 hb hg_ hnew_; clear hg_ hnew_; (first | rw [← Ny528.out] at ho18 | (simp only [Int.reduceToNat] at ho18; rw [← Ny528.out] at ho18)); have n0_ := Aside0.mk (Kd.R_below (by (with_reducible repeat (first | apply Kd.R_alloc | apply Kd.R_drewN | apply Kd.R_drew)); exact HO_5.out) hb); have n1_ := Aside0.mk (Kd.R_lower ho18 (below_size (by repeat (first | (with_reducible first | exact HB.out | apply below_alloc | apply pw_below_drewN | apply below_drew1) | exact HB.out)))); have n2_ := Aside0.mk (below_step (by repeat (first | (with_reducible first | exact HB.out | apply below_alloc | apply pw_below_drewN | apply below_drew1) | exact HB.out)) hb); clear HO_5; clear HB; have HO_5 := n0_; have HO530 := n1_; have HB := n2_; clear n0_ n1_ n2_; clear hb ho18))
          go_loopg [6, 34] kj5 (fun kq v6 v34 w' => ∃ (x6_2 : List ByteArray) (x34_2 : Int), v34 = .int .i64 x34_2 ∧ Aside0 (bastionlaw11_QuerySorted.l0 kq l0 t521 x6_2 l0 (l0.length : Int) x34_2 = some r) ∧ Aside0 (kq ≤ kj5) ∧ Aside0 (Kd.R k32 32 w' w.heap.size (fun _ => True) v522 t521) ∧ Aside0 (Kd.R Kd.string 9 w' w.heap.size (fun _ => True) v6 x6_2) ∧ Aside0 (Below w.heap.size w w'))
          case atStart => exact ⟨(y528), (0), (by first | rfl | (simp; done) | (simp [*]; done)), H', ⟨Nat.le_refl _⟩, ⟨by (with_reducible repeat (first | apply Kd.R_alloc | apply Kd.R_drewN | apply Kd.R_drew)); exact HO_5.out⟩, ⟨by (with_reducible repeat (first | apply Kd.R_alloc | apply Kd.R_drewN | apply Kd.R_drew)); exact HO530.out⟩, ⟨by repeat (first | (with_reducible first | exact HB.out | apply below_alloc | apply pw_below_drewN | apply below_drew1) | exact HB.out)⟩⟩
          case round =>
            clear H'
            try clear c1
            try clear p2
            try clear c4
            try clear c7
            try clear c9
            try clear c9b0
            try clear c9b1
            try clear c9b2
            try clear c13
            try clear c16
            try clear p2
            obtain ⟨x6_2, x34_2, rfl, HA, HK2, HO_5, HO_6, HB⟩ := hrel
            cases gk with
            | zero => exact absurd HA.out (by simp [bastionlaw11_QuerySorted.l0])
            | succ k2 =>
              have H := HA.out
              clear HA
              simp only [bastionlaw11_QuerySorted.l0] at H
              by_cases c19 : x34_2 < (l0.length : Int)
              · rw [if_pos c19] at H
                have c19b0 : decide (x34_2 < (l0.length : Int)) = true := decide_eq_true c19
                clear c19
                by_cases c20 : 0 ≤ x34_2
                · rw [if_pos c20] at H
                  have c20b0 : decide (0 ≤ x34_2) = true := decide_eq_true c20
                  clear c20
                  by_cases c21 : x34_2 < (l0.length : Int)
                  · rw [if_pos c21] at H
                    have c21b0 : decide (x34_2 < (l0.length : Int)) = true := decide_eq_true c21
                    clear c21
                    by_cases c22 : x34_2 < 20
                    · rw [if_pos c22] at H
                      have c22b0 : decide (x34_2 < 20) = true := decide_eq_true c22
                      clear c22
                      by_cases c23 : x6_2.length < 8796093022208
                      · rw [if_pos c23] at H
                        have LMc23 := Aside0.mk c23
                        clear c23
                        obtain ⟨y533, hy533⟩ : ∃ y_ : List ByteArray, y_ = (x6_2 ++ [(rd_T32 l0 x34_2).f0]) := ⟨_, rfl⟩
                        replace H : (bastionlaw11_QuerySorted.l0 k2 l0 t521 y533 l0 (l0.length : Int) (wrap64 (x34_2 + 1))) = some r := by first | (rw [hy533]; with_reducible exact H) | (have H2_ := (Option.bind_some _ _).symm.trans H; rw [hy533]; with_reducible exact H2_) | (have H2_ := (Option.bind_some _ _).symm.trans H; with_reducible exact H2_) | with_reducible exact H | (rw [hy533]; exact H) | exact H
                        have Ny533 := Aside0.mk hy533
                        clear hy533
                        have H' := Aside0.mk H
                        clear H
                        have p531 : 0 ≤ (x34_2 : Int) := of_decide_eq_true (by first | (with_reducible assumption) | assumption)
                        have q531 : x34_2 < (l0.length : Int) := of_decide_eq_true (by first | (with_reducible assumption) | assumption)
                        obtain ⟨ad531, e531, hx531_0, hx531_1⟩ := at_T32 HR0.out x34_2 p531 q531
                        cases e531
                        replace hx531_0 := (HB.out.cell (World.block_lt_of_cell? w _ hx531_0)).trans hx531_0
                        replace hx531_1 := (HB.out.cell (World.block_lt_of_cell? w _ hx531_1)).trans hx531_1
                        replace p531 := eq_true p531
                        replace q531 := eq_true q531
                        go_wp2_with (first | ((with_reducible refine gate_dst (N := 8) rfl ?_); refine box_event ?hg (N := 8) ?hd (cs := #[.string ⟨#[]⟩, .string ⟨#[]⟩]) (t := 32) ?hr ?_; (case hd => rfl); (case hg => rfl); (case hr => first | (go_simp; done) | (go_simp; rfl)); intro gb532 hg w24 hbox hb; have n0_ := Aside0.mk (Kd.R_below (Kd.R_elderB (by (with_reducible repeat (first | apply Kd.R_alloc | apply Kd.R_drewN | apply Kd.R_drew)); exact HO_5.out) gb532 (Nat.le_of_eq hg.symm)) hb); have n1_ := Aside0.mk (Kd.R_below (by (with_reducible repeat (first | apply Kd.R_alloc | apply Kd.R_drewN | apply Kd.R_drew)); exact HO_6.out) hb); have n2_ := Aside0.mk (below_step (by repeat (first | (with_reducible first | exact HB.out | apply below_alloc | apply pw_below_drewN | apply below_drew1) | exact HB.out)) hb); have n3_ := Aside0.mk (hbox); have n4_ := Aside0.mk ((by rw [hg]; exact (below_size (by repeat (first | (with_reducible first | exact HB.out | apply below_alloc | apply pw_below_drewN | apply below_drew1) | exact HB.out))) : w.heap.size ≤ gb532)); have n5_ := Aside0.mk ((by rw [hg]; exact (below_size (by repeat (first | (with_reducible first | exact HB.out | apply below_alloc | apply pw_below_drewN | apply below_drew1) | exact HB.out))) : w.heap.size ≤ gb532)); clear HO_5; clear HO_6; clear HB; have HO_5 := n0_; have HO_6 := n1_; have HB := n2_; have BK532 := n3_; have GW532 := n4_; have GE532 := n5_; clear n0_ n1_ n2_ n3_ n4_ n5_; clear hb hbox hg; have hcz25_0 : w24.cell? ⟨gb532, 0, none⟩ = some (.string ⟨#[]⟩) := (blk_cell BK532.out 0).trans rfl; have hcz25_1 : w24.cell? ⟨gb532, 1, none⟩ = some (.string ⟨#[]⟩) := (blk_cell BK532.out 1).trans rfl; have hfz25_0 := blk_frozen BK532.out 0; have hfz25_1 := blk_frozen BK532.out 1) | ((with_reducible refine gate_builtin (b := .append) (xs := #[.tmp 41, .tmp 44]) rfl ?_); at_builtin; refine Kd.R_append Kd.string (w0 := w) w.heap.size rfl (.tmp 41) (.tmp 44) 41 9 (.string ⟨#[]⟩) 16 rfl Tryd.underlying41 info9 rfl (by decide) (by omega) u6 x6_2 ((rd_T32 l0 x34_2).f0) [.string ((rd_T32 l0 x34_2).f0)] (fun _ => True) (fun _ => False) rfl (by first | (go_simp; done) | (go_simp; rfl)) ?aP (fun _ hk => hk.elim) ?aF ?aO ?aB ?aS ?aL ?_; (case aP => exact rfl); (case aB => exact (by repeat (first | (with_reducible first | exact HB.out | apply below_alloc | apply pw_below_drewN | apply below_drew1 | refine below_set ?_ GE532.out) | exact HB.out))); (case aF => exact (fun _ _ => trivial)); (case aO => exact (by (with_reducible repeat (first | apply Kd.R_alloc | apply Kd.R_drewN | apply Kd.R_drew)); exact Kd.R_mono (Kd.R_far (p := ⟨gb532, 1, none⟩) (Kd.R_far (p := ⟨gb532, 0, none⟩) (Kd.R_types HO_6.out BK532.out (by decide)) (fun _ hk => hk.2) (.string ((rd_T32 l0 x34_2).f0))) (fun _ hk => hk.2) (.string ((rd_T32 l0 x34_2).f1))) (fun _ hk => trivial))); (case aS => exact (below_size (by repeat (first | (with_reducible first | exact HB.out | apply below_alloc | apply pw_below_drewN | apply below_drew1 | refine below_set ?_ GE532.out) | exact HB.out)))); (case aL => have := LMc23.out; omega); intro v534 w26 ho hb hg hat; rw [← Ny533.out] at ho; have n0_ := Aside0.mk (Kd.R_over' (by (with_reducible repeat (first | apply Kd.R_alloc | apply Kd.R_drewN | apply Kd.R_drew)); exact (Kd.R_mono (Kd.R_far (p := ⟨gb532, 1, none⟩) (Kd.R_far (p := ⟨gb532, 0, none⟩) (Kd.R_mono HO_5.out (fun k_ hk => (⟨hk, hk.2⟩ : _ ∧ k_ ≠ gb532))) (fun _ hk => hk.2) (.string ((rd_T32 l0 x34_2).f0))) (fun _ hk => hk.2) (.string ((rd_T32 l0 x34_2).f1))) (fun _ h_ => h_.1))) (Kd.R_typed (by (with_reducible repeat (first | apply Kd.R_alloc | apply Kd.R_drewN | apply Kd.R_drew)); exact (Kd.R_mono (Kd.R_far (p := ⟨gb532, 1, none⟩) (Kd.R_far (p := ⟨gb532, 0, none⟩) (Kd.R_types HO_6.out BK532.out (by decide)) (fun _ hk => hk.2) (.string ((rd_T32 l0 x34_2).f0))) (fun _ hk => hk.2) (.string ((rd_T32 l0 x34_2).f1))) (fun _ h_ => h_.1)))) (by decide) hg); have n1_ := Aside0.mk (blk_grown (g := gb532) (o := .cells #[.string ((rd_T32 l0 x34_2).f0), .string ((rd_T32 l0 x34_2).f1)] 32 (0, 0)) (by (with_reducible repeat (first | refine blk_drewN ?_ _ | refine blk_drew ?_ | refine blk_alloc ?_ _)); refine blk_put (cs := #[.string ((rd_T32 l0 x34_2).f0), .string ⟨#[]⟩]) ?_ 1 _ rfl; (with_reducible repeat (first | refine blk_drewN ?_ _ | refine blk_drew ?_ | refine blk_alloc ?_ _)); refine blk_put (cs := #[.string ⟨#[]⟩, .string ⟨#[]⟩]) ?_ 0 _ rfl; (with_reducible repeat (first | refine blk_drewN ?_ _ | refine blk_drew ?_ | refine blk_alloc ?_ _)); exact BK532.out) hg (Kd.R_ne HO_6.out BK532.out (by decide))); have n2_ := Aside0.mk (hb); have n3_ := Aside0.mk (ho); clear HO_5; clear BK532; clear HB; clear HO_6; have HO_5 := n0_; have BK532 := n1_; have HB := n2_; have HO535 := n3_; clear n0_ n1_ n2_ n3_; clear ho hb hg hat))
                        go_roundg k2
                        case measure => have := HJ5.out; have := HK2.out; omega
                        case rel => exact ⟨(y533), (wrap64 (x34_2 + 1)), (by first | rfl | (simp; done) | (simp [*]; done)), H', ⟨by have := HJ5.out; have := HK2.out; omega⟩, ⟨by (with_reducible repeat (first | apply Kd.R_alloc | apply Kd.R_drewN | apply Kd.R_drew)); exact Kd.R_mono HO_5.out (fun _ hk => trivial)⟩, ⟨by (with_reducible repeat (first | apply Kd.R_alloc | apply Kd.R_drewN | apply Kd.R_drew)); exact HO535.out⟩, ⟨by repeat (first | (with_reducible first | exact HB.out | apply below_alloc | apply pw_below_drewN | apply below_drew1 | refine below_set ?_ GE532.out) | exact HB.out)⟩⟩
                      · rw [if_neg c23] at H
                        exact absurd H (by simp)
                    · rw [if_neg c22] at H
                      have c22b0 : decide (x34_2 < 20) = false := decide_eq_false c22
                      clear c22
                      have H' := Aside0.mk H
                      clear H
                      have p531 : 0 ≤ (x34_2 : Int) := of_decide_eq_true (by first | (with_reducible assumption) | assumption)
                      have q531 : x34_2 < (l0.length : Int) := of_decide_eq_true (by first | (with_reducible assumption) | assumption)
                      obtain ⟨ad531, e531, hx531_0, hx531_1⟩ := at_T32 HR0.out x34_2 p531 q531
                      cases e531
                      replace hx531_0 := (HB.out.cell (World.block_lt_of_cell? w _ hx531_0)).trans hx531_0
                      replace hx531_1 := (HB.out.cell (World.block_lt_of_cell? w _ hx531_1)).trans hx531_1
                      replace p531 := eq_true p531
                      replace q531 := eq_true q531
                      go_wp2_with (first | ((with_reducible refine gate_dst (N := 8) rfl ?_); refine box_event ?hg (N := 8) ?hd (cs := #[.string ⟨#[]⟩, .string ⟨#[]⟩]) (t := 32) ?hr ?_; (case hd => rfl); (case hg => rfl); (case hr => first | (go_simp; done) | (go_simp; rfl)); intro gb532 hg w27 hbox hb; have n0_ := Aside0.mk (Kd.R_below (Kd.R_elderB (by (with_reducible repeat (first | apply Kd.R_alloc | apply Kd.R_drewN | apply Kd.R_drew)); exact HO_5.out) gb532 (Nat.le_of_eq hg.symm)) hb); have n1_ := Aside0.mk (Kd.R_below (by (with_reducible repeat (first | apply Kd.R_alloc | apply Kd.R_drewN | apply Kd.R_drew)); exact HO_6.out) hb); have n2_ := Aside0.mk (below_step (by repeat (first | (with_reducible first | exact HB.out | apply below_alloc | apply pw_below_drewN | apply below_drew1) | exact HB.out)) hb); have n3_ := Aside0.mk (hbox); have n4_ := Aside0.mk ((by rw [hg]; exact (below_size (by repeat (first | (with_reducible first | exact HB.out | apply below_alloc | apply pw_below_drewN | apply below_drew1) | exact HB.out))) : w.heap.size ≤ gb532)); have n5_ := Aside0.mk ((by rw [hg]; exact (below_size (by repeat (first | (with_reducible first | exact HB.out | apply below_alloc | apply pw_below_drewN | apply below_drew1) | exact HB.out))) : w.heap.size ≤ gb532)); clear HO_5; clear HO_6; clear HB; have HO_5 := n0_; have HO_6 := n1_; have HB := n2_; have BK532 := n3_; have GW532 := n4_; have GE532 := n5_; clear n0_ n1_ n2_ n3_ n4_ n5_; clear hb hbox hg; have hcz28_0 : w27.cell? ⟨gb532, 0, none⟩ = some (.string ⟨#[]⟩) := (blk_cell BK532.out 0).trans rfl; have hcz28_1 : w27.cell? ⟨gb532, 1, none⟩ = some (.string ⟨#[]⟩) := (blk_cell BK532.out 1).trans rfl; have hfz28_0 := blk_frozen BK532.out 0; have hfz28_1 := blk_frozen BK532.out 1))
                      go_roundg k2
                      case measure => have := HJ5.out; have := HK2.out; omega
                      case rel => exact ⟨(x6_2), (wrap64 (x34_2 + 1)), (by first | rfl | (simp; done) | (simp [*]; done)), H', ⟨by have := HJ5.out; have := HK2.out; omega⟩, ⟨by (with_reducible repeat (first | apply Kd.R_alloc | apply Kd.R_drewN | apply Kd.R_drew)); exact Kd.R_mono (Kd.R_far (p := ⟨gb532, 1, none⟩) (Kd.R_far (p := ⟨gb532, 0, none⟩) (Kd.R_mono HO_5.out (fun k_ hk => (⟨hk, hk.2⟩ : _ ∧ k_ ≠ gb532))) (fun _ hk => hk.2) (.string ((rd_T32 l0 x34_2).f0))) (fun _ hk => hk.2) (.string ((rd_T32 l0 x34_2).f1))) (fun _ hk => trivial)⟩, ⟨by (with_reducible repeat (first | apply Kd.R_alloc | apply Kd.R_drewN | apply Kd.R_drew)); exact Kd.R_mono (Kd.R_far (p := ⟨gb532, 1, none⟩) (Kd.R_far (p := ⟨gb532, 0, none⟩) (Kd.R_types HO_6.out BK532.out (by decide)) (fun _ hk => hk.2) (.string ((rd_T32 l0 x34_2).f0))) (fun _ hk => hk.2) (.string ((rd_T32 l0 x34_2).f1))) (fun _ hk => trivial)⟩, ⟨by repeat (first | (with_reducible first | exact HB.out | apply below_alloc | apply pw_below_drewN | apply below_drew1 | refine below_set ?_ GE532.out) | exact HB.out)⟩⟩
                  · exact absurd (by first | exact of_eq_true c19b0 | exact of_decide_eq_true c19b0 | exact beq_iff_eq.mp c19b0 | assumption) c21
                · rw [if_neg c20] at H
                  exact absurd H (by simp)
              · rw [if_neg c19] at H
                have c19b0 : decide (x34_2 < (l0.length : Int)) = false := decide_eq_false c19
                clear c19
                have H' := Aside0.mk H
                clear H
                obtain ⟨Ao29, co29, eo29⟩ := Kd.R_slice HO_6.out
                subst eo29
                go_wp2
                go_loopg [49] k2 (fun kq v49 w' => ∃ (x49_3 : Int), v49 = .int .i64 x49_3 ∧ Aside0 (bastionlaw11_QuerySorted.l1 kq l0 t521 x6_2 (x6_2.length : Int) x49_3 = some r) ∧ Aside0 (kq ≤ k2) ∧ Aside0 (Kd.R k32 32 w' w.heap.size (fun _ => True) v522 t521) ∧ Aside0 (Kd.R Kd.string 9 w' w.heap.size (fun _ => True) (.slice Ao29 x6_2.length co29) x6_2) ∧ Aside0 (Below w.heap.size w w'))
                case atStart => exact ⟨(0), (by first | rfl | (simp; done) | (simp [*]; done)), H', ⟨Nat.le_refl _⟩, ⟨by (with_reducible repeat (first | apply Kd.R_alloc | apply Kd.R_drewN | apply Kd.R_drew)); exact HO_5.out⟩, ⟨by (with_reducible repeat (first | apply Kd.R_alloc | apply Kd.R_drewN | apply Kd.R_drew)); exact HO_6.out⟩, ⟨by repeat (first | (with_reducible first | exact HB.out | apply below_alloc | apply pw_below_drewN | apply below_drew1) | exact HB.out)⟩⟩
                case round =>
                  clear H'
                  try clear c1
                  try clear c2
                  try clear p2
                  try clear c4
                  try clear p5
                  try clear q5
                  try clear hx5
                  try clear p6
                  try clear c7
                  try clear c9
                  try clear c9b0
                  try clear c9b1
                  try clear c9b2
                  try clear c13
                  try clear c16
                  try clear c19
                  try clear c19b0
                  try clear c20
                  try clear c20b0
                  try clear c21
                  try clear c21b0
                  try clear c22
                  try clear c22b0
                  try clear c23
                  try clear hcz25_0
                  try clear hcz25_1
                  try clear hcz28_0
                  try clear hcz28_1
                  try clear hfz25_0
                  try clear hfz25_1
                  try clear hfz28_0
                  try clear hfz28_1
                  try clear hx531_0
                  try clear hx531_1
                  try clear p2
                  try clear p531
                  try clear q531
                  obtain ⟨x49_3, rfl, HA, HK3, HO_5, HO_47, HB⟩ := hrel
                  cases gk with
                  | zero => exact absurd HA.out (by simp [bastionlaw11_QuerySorted.l1])
                  | succ k3 =>
                    have H := HA.out
                    clear HA
                    simp only [bastionlaw11_QuerySorted.l1] at H
                    by_cases c30 : x49_3 < (x6_2.length : Int)
                    · rw [if_pos c30] at H
                      have c30b0 : decide (x49_3 < (x6_2.length : Int)) = true := decide_eq_true c30
                      clear c30
                      by_cases c31 : 0 ≤ x49_3
                      · rw [if_pos c31] at H
                        have c31b0 : decide (0 ≤ x49_3) = true := decide_eq_true c31
                        clear c31
                        by_cases c32 : x49_3 < (x6_2.length : Int)
                        · rw [if_pos c32] at H
                          have c32b0 : decide (x49_3 < (x6_2.length : Int)) = true := decide_eq_true c32
                          clear c32
                          have H' := Aside0.mk H
                          clear H
                          have p536 : 0 ≤ (x49_3 : Int) := of_decide_eq_true (by first | (with_reducible assumption) | assumption)
                          have q536 : x49_3 < (x6_2.length : Int) := of_decide_eq_true (by first | (with_reducible assumption) | assumption)
                          obtain ⟨ad536, e536, hx536_0⟩ := Kd.at_string (Kd.R_reads' HO_47.out).2.2 x49_3 p536 q536
                          cases e536
                          replace p536 := eq_true p536
                          replace q536 := eq_true q536
                          go_wp2
                          go_loopg [11, 12, 55] k3 (fun kq v11 v12 v55 w' => ∃ (x11_4 : List (S32)) (x12_4 : List (S32)) (x55_4 : Int), v55 = .int .i64 x55_4 ∧ Aside0 (bastionlaw11_QuerySorted.l2 kq l0 t521 (rdOf ByteArray.empty x6_2 x49_3) x11_4 x12_4 x6_2 (x6_2.length : Int) x49_3 (l0.length : Int) x55_4 = some r) ∧ Aside0 (kq ≤ k3) ∧ Aside0 (Kd.R k32 32 w' w.heap.size (fun k_ => some k_ ≠ (v11 : Value).ownBlock ∧ some k_ ≠ (v12 : Value).ownBlock) v522 t521) ∧ Aside0 (Kd.R k32 32 w' w.heap.size (fun k_ => some k_ ≠ (v522 : Value).ownBlock ∧ some k_ ≠ (v12 : Value).ownBlock) v11 x11_4) ∧ Aside0 (Kd.R k32 32 w' w.heap.size (fun k_ => some k_ ≠ (v522 : Value).ownBlock ∧ some k_ ≠ (v11 : Value).ownBlock) v12 x12_4) ∧ Aside0 (Kd.R Kd.string 9 w' w.heap.size (fun _ => True) (.slice (some ad536) x6_2.length co29) x6_2) ∧ Aside0 (Below w.heap.size w w'))
                          case atStart => exact ⟨(([] : List (S32))), (([] : List (S32))), (0), (by first | rfl | (simp; done) | (simp [*]; done)), H', ⟨Nat.le_refl _⟩, ⟨by (with_reducible repeat (first | apply Kd.R_alloc | apply Kd.R_drewN | apply Kd.R_drew)); exact Kd.R_mono HO_5.out (fun _ hk => ⟨(by simp [Value.ownBlock]), (by simp [Value.ownBlock])⟩)⟩, ⟨by first | exact Kd.R_nil _ _ _ _ _ | exact Kd.N_nil _ _ _ _ _ | exact Kd.V_nil _ _ _ _ _ | exact Kd.Q_nil _ _ _ _ _ | exact Kd.S_nil _ _ _ _ _⟩, ⟨by first | exact Kd.R_nil _ _ _ _ _ | exact Kd.N_nil _ _ _ _ _ | exact Kd.V_nil _ _ _ _ _ | exact Kd.Q_nil _ _ _ _ _ | exact Kd.S_nil _ _ _ _ _⟩, ⟨by (with_reducible repeat (first | apply Kd.R_alloc | apply Kd.R_drewN | apply Kd.R_drew)); exact HO_47.out⟩, ⟨by repeat (first | (with_reducible first | exact HB.out | apply below_alloc | apply pw_below_drewN | apply below_drew1) | exact HB.out)⟩⟩
                          case round =>
                            clear H'
                            try clear c1
                            try clear c2
                            try clear p2
                            try clear c3
                            try clear c4
                            try clear p5
                            try clear q5
                            try clear hx5
                            try clear p6
                            try clear c7
                            try clear c9
                            try clear c9b0
                            try clear c9b1
                            try clear c9b2
                            try clear c13
                            try clear c16
                            try clear c19
                            try clear c19b0
                            try clear c20
                            try clear c20b0
                            try clear c21
                            try clear c21b0
                            try clear c22
                            try clear c22b0
                            try clear c23
                            try clear c30
                            try clear c30b0
                            try clear c31
                            try clear c31b0
                            try clear c32
                            try clear c32b0
                            try clear hcz25_0
                            try clear hcz25_1
                            try clear hcz28_0
                            try clear hcz28_1
                            try clear hfz25_0
                            try clear hfz25_1
                            try clear hfz28_0
                            try clear hfz28_1
                            try clear hx531_0
                            try clear hx531_1
                            try clear hx536_0
                            try clear p2
                            try clear p5
                            try clear p531
                            try clear p536
                            try clear p6
                            try clear q5
                            try clear q531
                            try clear q536
                            obtain ⟨x11_4, x12_4, x55_4, rfl, HA, HK4, HO_5, HO_11, HO_12, HO_47, HB⟩ := hrel
                            cases gk with
                            | zero => exact absurd HA.out (by simp [bastionlaw11_QuerySorted.l2])
                            | succ k4 =>
                              have H := HA.out
                              clear HA
                              simp only [bastionlaw11_QuerySorted.l2] at H
                              by_cases c33 : x55_4 < (l0.length : Int)
                              · rw [if_pos c33] at H
                                have c33b0 : decide (x55_4 < (l0.length : Int)) = true := decide_eq_true c33
                                clear c33
                                by_cases c34 : 0 ≤ x55_4
                                · rw [if_pos c34] at H
                                  have c34b0 : decide (0 ≤ x55_4) = true := decide_eq_true c34
                                  clear c34
                                  by_cases c35 : x55_4 < (l0.length : Int)
                                  · rw [if_pos c35] at H
                                    have c35b0 : decide (x55_4 < (l0.length : Int)) = true := decide_eq_true c35
                                    clear c35
                                    by_cases c36 : ((rd_T32 l0 x55_4).f0).toList = (rdOf ByteArray.empty x6_2 x49_3).toList
                                    · rw [if_pos c36] at H
                                      have c36b0 : (((rd_T32 l0 x55_4).f0).toList == (rdOf ByteArray.empty x6_2 x49_3).toList) = true := beq_iff_eq.mpr c36
                                      have c36b1 : (((rd_T32 l0 x55_4).f0).toList != (rdOf ByteArray.empty x6_2 x49_3).toList) = false := bne_eq_false_iff_eq.mpr c36
                                      clear c36
                                      by_cases c37 : x11_4.length < 4398046511104
                                      · rw [if_pos c37] at H
                                        have LMc37 := Aside0.mk c37
                                        clear c37
                                        obtain ⟨y540, hy540⟩ : ∃ y_ : List (S32), y_ = (x11_4 ++ [(⟨(rd_T32 l0 x55_4).f0, (rd_T32 l0 x55_4).f1⟩ : S32)]) := ⟨_, rfl⟩
                                        replace H : (if x55_4 < (t521.length : Int) then (if ((rd_T32 t521 x55_4).f0).toList = (rdOf ByteArray.empty x6_2 x49_3).toList then (if x12_4.length < 4398046511104 then (bastionlaw11_QuerySorted.l2 k4 l0 t521 (rdOf ByteArray.empty x6_2 x49_3) y540 (x12_4 ++ [(⟨(rd_T32 t521 x55_4).f0, (rd_T32 t521 x55_4).f1⟩ : S32)]) x6_2 (x6_2.length : Int) x49_3 (l0.length : Int) (wrap64 (x55_4 + 1))) else (none)) else (bastionlaw11_QuerySorted.l2 k4 l0 t521 (rdOf ByteArray.empty x6_2 x49_3) y540 x12_4 x6_2 (x6_2.length : Int) x49_3 (l0.length : Int) (wrap64 (x55_4 + 1)))) else (none)) = some r := by first | (rw [hy540]; with_reducible exact H) | (have H2_ := (Option.bind_some _ _).symm.trans H; rw [hy540]; with_reducible exact H2_) | (have H2_ := (Option.bind_some _ _).symm.trans H; with_reducible exact H2_) | with_reducible exact H | (rw [hy540]; exact H) | exact H
                                        have Ny540 := Aside0.mk hy540
                                        clear hy540
                                        by_cases c38 : x55_4 < (t521.length : Int)
                                        · rw [if_pos c38] at H
                                          have c38b0 : decide (x55_4 < (t521.length : Int)) = true := decide_eq_true c38
                                          clear c38
                                          by_cases c39 : ((rd_T32 t521 x55_4).f0).toList = (rdOf ByteArray.empty x6_2 x49_3).toList
                                          · rw [if_pos c39] at H
                                            have c39b0 : (((rd_T32 t521 x55_4).f0).toList == (rdOf ByteArray.empty x6_2 x49_3).toList) = true := beq_iff_eq.mpr c39
                                            have c39b1 : (((rd_T32 t521 x55_4).f0).toList != (rdOf ByteArray.empty x6_2 x49_3).toList) = false := bne_eq_false_iff_eq.mpr c39
                                            clear c39
                                            by_cases c40 : x12_4.length < 4398046511104
                                            · rw [if_pos c40] at H
                                              have LMc40 := Aside0.mk c40
                                              clear c40
                                              obtain ⟨y545, hy545⟩ : ∃ y_ : List (S32), y_ = (x12_4 ++ [(⟨(rd_T32 t521 x55_4).f0, (rd_T32 t521 x55_4).f1⟩ : S32)]) := ⟨_, rfl⟩
                                              replace H : (bastionlaw11_QuerySorted.l2 k4 l0 t521 (rdOf ByteArray.empty x6_2 x49_3) y540 y545 x6_2 (x6_2.length : Int) x49_3 (l0.length : Int) (wrap64 (x55_4 + 1))) = some r := by first | (rw [hy545]; with_reducible exact H) | (have H2_ := (Option.bind_some _ _).symm.trans H; rw [hy545]; with_reducible exact H2_) | (have H2_ := (Option.bind_some _ _).symm.trans H; with_reducible exact H2_) | with_reducible exact H | (rw [hy545]; exact H) | exact H
                                              have Ny545 := Aside0.mk hy545
                                              clear hy545
                                              have H' := Aside0.mk H
                                              clear H
                                              have p538 : 0 ≤ (x55_4 : Int) := of_decide_eq_true (by first | (with_reducible assumption) | assumption)
                                              have q538 : x55_4 < (l0.length : Int) := of_decide_eq_true (by first | (with_reducible assumption) | assumption)
                                              obtain ⟨ad538, e538, hx538_0, hx538_1⟩ := at_T32 HR0.out x55_4 p538 q538
                                              cases e538
                                              replace hx538_0 := (HB.out.cell (World.block_lt_of_cell? w _ hx538_0)).trans hx538_0
                                              replace hx538_1 := (HB.out.cell (World.block_lt_of_cell? w _ hx538_1)).trans hx538_1
                                              replace p538 := eq_true p538
                                              replace q538 := eq_true q538
                                              have p539 : 0 ≤ (x55_4 : Int) := of_decide_eq_true (by first | (with_reducible assumption) | assumption)
                                              have q539 : x55_4 < (l0.length : Int) := of_decide_eq_true (by first | (with_reducible assumption) | assumption)
                                              obtain ⟨ad539, e539, hx539_0, hx539_1⟩ := at_T32 HR0.out x55_4 p539 q539
                                              obtain rfl : ad538 = ad539 := (by injection e539)
                                              replace hx539_0 := (HB.out.cell (World.block_lt_of_cell? w _ hx539_0)).trans hx539_0
                                              replace hx539_1 := (HB.out.cell (World.block_lt_of_cell? w _ hx539_1)).trans hx539_1
                                              replace p539 := eq_true p539
                                              replace q539 := eq_true q539
                                              go_wp2_with (first | ((with_reducible refine gate_builtin (b := .append) (xs := #[.tmp 65, .tmp 70]) rfl ?_); at_builtin; refine Kd.R_append k32 (w0 := w) w.heap.size rfl (.tmp 65) (.tmp 70) 22 32 (.agg #[(.string ⟨#[]⟩), (.string ⟨#[]⟩)]) 32 rfl Tryd.underlying22 info32 rfl (by decide) (by omega) u11 x11_4 (⟨(rd_T32 l0 x55_4).f0, (rd_T32 l0 x55_4).f1⟩ : S32) [.string ((rd_T32 l0 x55_4).f0), .string ((rd_T32 l0 x55_4).f1)] (fun k_ => some k_ ≠ (v522 : Value).ownBlock ∧ some k_ ≠ (u12 : Value).ownBlock) (fun _ => False) rfl rfl ?aP (fun _ hk => hk.elim) ?aF ?aO ?aB ?aS ?aL ?_; (case aP => exact k32_mkM _ _ _ (⟨(rd_T32 l0 x55_4).f0, (rd_T32 l0 x55_4).f1⟩ : S32)); (case aB => exact (by repeat (first | (with_reducible first | exact HB.out | apply below_alloc | apply pw_below_drewN | apply below_drew1) | exact HB.out))); (case aF => exact (fun k_ hk => ⟨Kd.fresh' (Kd.R_lt (by (with_reducible repeat (first | apply Kd.R_alloc | apply Kd.R_drewN | apply Kd.R_drew)); exact HO_5.out)) k_ hk, Kd.fresh' (Kd.R_lt (by (with_reducible repeat (first | apply Kd.R_alloc | apply Kd.R_drewN | apply Kd.R_drew)); exact HO_12.out)) k_ hk⟩)); (case aO => exact (by (with_reducible repeat (first | apply Kd.R_alloc | apply Kd.R_drewN | apply Kd.R_drew)); exact HO_11.out)); (case aS => exact (below_size (by repeat (first | (with_reducible first | exact HB.out | apply below_alloc | apply pw_below_drewN | apply below_drew1) | exact HB.out)))); (case aL => have := LMc37.out; omega); intro v541 w41 ho hb hg hat; rw [← Ny540.out] at ho; have n0_ := Aside0.mk (Kd.R_after (ok := (fun k_ => some k_ ≠ (u12 : Value).ownBlock)) (by (with_reducible repeat (first | apply Kd.R_alloc | apply Kd.R_drewN | apply Kd.R_drew)); exact Kd.R_mono HO_5.out (fun _ hk => ⟨hk.2, hk.1⟩)) hg hat); have n1_ := Aside0.mk (Kd.R_after (ok := (fun k_ => some k_ ≠ (v522 : Value).ownBlock)) (by (with_reducible repeat (first | apply Kd.R_alloc | apply Kd.R_drewN | apply Kd.R_drew)); exact HO_12.out) hg hat); have n2_ := Aside0.mk (Kd.R_over' (by (with_reducible repeat (first | apply Kd.R_alloc | apply Kd.R_drewN | apply Kd.R_drew)); exact HO_47.out) (Kd.R_typed (by (with_reducible repeat (first | apply Kd.R_alloc | apply Kd.R_drewN | apply Kd.R_drew)); exact HO_11.out)) (by decide) hg); have n3_ := Aside0.mk (hb); have n4_ := Aside0.mk (ho); clear HO_5; clear HO_12; clear HO_47; clear HB; clear HO_11; have HO_5 := n0_; have HO_12 := n1_; have HO_47 := n2_; have HB := n3_; have HO542 := n4_; clear n0_ n1_ n2_ n3_ n4_; clear ho hb hg hat; obtain ⟨Ao42, co42, eo42⟩ := Kd.R_slice HO_5.out; subst eo42; have p543 : 0 ≤ (x55_4 : Int) := of_decide_eq_true (by first | (with_reducible assumption) | assumption); have q543 : x55_4 < (t521.length : Int) := of_decide_eq_true (by first | (with_reducible assumption) | assumption); obtain ⟨ad543, e543, hx543_0, hx543_1⟩ := at_T32 (Kd.R_reads' HO_5.out).2.2 x55_4 p543 q543; cases e543; replace p543 := eq_true p543; replace q543 := eq_true q543; have p544 : 0 ≤ (x55_4 : Int) := of_decide_eq_true (by first | (with_reducible assumption) | assumption); have q544 : x55_4 < (t521.length : Int) := of_decide_eq_true (by first | (with_reducible assumption) | assumption); obtain ⟨ad544, e544, hx544_0, hx544_1⟩ := at_T32 (Kd.R_reads' HO_5.out).2.2 x55_4 p544 q544; obtain rfl : ad543 = ad544 := (by injection e544); replace p544 := eq_true p544; replace q544 := eq_true q544) | ((with_reducible refine gate_builtin (b := .append) (xs := #[.tmp 79, .tmp 84]) rfl ?_); at_builtin; refine Kd.R_append k32 (w0 := w) w.heap.size rfl (.tmp 79) (.tmp 84) 22 32 (.agg #[(.string ⟨#[]⟩), (.string ⟨#[]⟩)]) 32 rfl Tryd.underlying22 info32 rfl (by decide) (by omega) u12 x12_4 (⟨(rd_T32 t521 x55_4).f0, (rd_T32 t521 x55_4).f1⟩ : S32) [.string ((rd_T32 t521 x55_4).f0), .string ((rd_T32 t521 x55_4).f1)] (fun k_ => some k_ ≠ (.slice (some ad543) t521.length co42 : Value).ownBlock ∧ some k_ ≠ (v541 : Value).ownBlock) (fun _ => False) rfl rfl ?aP (fun _ hk => hk.elim) ?aF ?aO ?aB ?aS ?aL ?_; (case aP => exact k32_mkM _ _ _ (⟨(rd_T32 t521 x55_4).f0, (rd_T32 t521 x55_4).f1⟩ : S32)); (case aB => exact (by repeat (first | (with_reducible first | exact HB.out | apply below_alloc | apply pw_below_drewN | apply below_drew1) | exact HB.out))); (case aF => exact (fun k_ hk => ⟨Kd.fresh' (Kd.R_lt (by (with_reducible repeat (first | apply Kd.R_alloc | apply Kd.R_drewN | apply Kd.R_drew)); exact HO_5.out)) k_ hk, Kd.fresh' (Kd.R_lt (by (with_reducible repeat (first | apply Kd.R_alloc | apply Kd.R_drewN | apply Kd.R_drew)); exact HO542.out)) k_ hk⟩)); (case aO => exact (by (with_reducible repeat (first | apply Kd.R_alloc | apply Kd.R_drewN | apply Kd.R_drew)); exact HO_12.out)); (case aS => exact (below_size (by repeat (first | (with_reducible first | exact HB.out | apply below_alloc | apply pw_below_drewN | apply below_drew1) | exact HB.out)))); (case aL => have := LMc40.out; omega); intro v546 w43 ho hb hg hat; rw [← Ny545.out] at ho; have n0_ := Aside0.mk (Kd.R_after (ok := (fun k_ => some k_ ≠ (v541 : Value).ownBlock)) (by (with_reducible repeat (first | apply Kd.R_alloc | apply Kd.R_drewN | apply Kd.R_drew)); exact Kd.R_mono HO_5.out (fun _ hk => ⟨hk.2, hk.1⟩)) hg hat); have n1_ := Aside0.mk (Kd.R_over' (by (with_reducible repeat (first | apply Kd.R_alloc | apply Kd.R_drewN | apply Kd.R_drew)); exact HO_47.out) (Kd.R_typed (by (with_reducible repeat (first | apply Kd.R_alloc | apply Kd.R_drewN | apply Kd.R_drew)); exact HO_12.out)) (by decide) hg); have n2_ := Aside0.mk (Kd.R_after (ok := (fun k_ => some k_ ≠ (.slice (some ad543) t521.length co42 : Value).ownBlock)) (by (with_reducible repeat (first | apply Kd.R_alloc | apply Kd.R_drewN | apply Kd.R_drew)); exact HO542.out) hg hat); have n3_ := Aside0.mk (hb); have n4_ := Aside0.mk (ho); clear HO_5; clear HO_47; clear HO542; clear HB; clear HO_12; have HO_5 := n0_; have HO_47 := n1_; have HO542 := n2_; have HB := n3_; have HO547 := n4_; clear n0_ n1_ n2_ n3_ n4_; clear ho hb hg hat))
                                              go_roundg k4
                                              case measure => have := HJ5.out; have := HK2.out; have := HK3.out; have := HK4.out; omega
                                              case rel => exact ⟨(y540), (y545), (wrap64 (x55_4 + 1)), (by first | rfl | (simp; done) | (simp [*]; done)), H', ⟨by have := HJ5.out; have := HK2.out; have := HK3.out; have := HK4.out; omega⟩, ⟨by (with_reducible repeat (first | apply Kd.R_alloc | apply Kd.R_drewN | apply Kd.R_drew)); exact HO_5.out⟩, ⟨by (with_reducible repeat (first | apply Kd.R_alloc | apply Kd.R_drewN | apply Kd.R_drew)); exact HO542.out⟩, ⟨by (with_reducible repeat (first | apply Kd.R_alloc | apply Kd.R_drewN | apply Kd.R_drew)); exact HO547.out⟩, ⟨by (with_reducible repeat (first | apply Kd.R_alloc | apply Kd.R_drewN | apply Kd.R_drew)); exact HO_47.out⟩, ⟨by repeat (first | (with_reducible first | exact HB.out | apply below_alloc | apply pw_below_drewN | apply below_drew1) | exact HB.out)⟩⟩
                                            · rw [if_neg c40] at H
                                              exact absurd H (by simp)
                                          · rw [if_neg c39] at H
                                            have c39b0 : (((rd_T32 t521 x55_4).f0).toList == (rdOf ByteArray.empty x6_2 x49_3).toList) = false := beq_eq_false_iff_ne.mpr c39
                                            have c39b1 : (((rd_T32 t521 x55_4).f0).toList != (rdOf ByteArray.empty x6_2 x49_3).toList) = true := bne_iff_ne.mpr c39
                                            have H' := Aside0.mk H
                                            clear H
                                            have p538 : 0 ≤ (x55_4 : Int) := of_decide_eq_true (by first | (with_reducible assumption) | assumption)
                                            have q538 : x55_4 < (l0.length : Int) := of_decide_eq_true (by first | (with_reducible assumption) | assumption)
                                            obtain ⟨ad538, e538, hx538_0, hx538_1⟩ := at_T32 HR0.out x55_4 p538 q538
                                            cases e538
                                            replace hx538_0 := (HB.out.cell (World.block_lt_of_cell? w _ hx538_0)).trans hx538_0
                                            replace hx538_1 := (HB.out.cell (World.block_lt_of_cell? w _ hx538_1)).trans hx538_1
                                            replace p538 := eq_true p538
                                            replace q538 := eq_true q538
                                            have p539 : 0 ≤ (x55_4 : Int) := of_decide_eq_true (by first | (with_reducible assumption) | assumption)
                                            have q539 : x55_4 < (l0.length : Int) := of_decide_eq_true (by first | (with_reducible assumption) | assumption)
                                            obtain ⟨ad539, e539, hx539_0, hx539_1⟩ := at_T32 HR0.out x55_4 p539 q539
                                            obtain rfl : ad538 = ad539 := (by injection e539)
                                            replace hx539_0 := (HB.out.cell (World.block_lt_of_cell? w _ hx539_0)).trans hx539_0
                                            replace hx539_1 := (HB.out.cell (World.block_lt_of_cell? w _ hx539_1)).trans hx539_1
                                            replace p539 := eq_true p539
                                            replace q539 := eq_true q539
                                            go_wp2_with (first | ((with_reducible refine gate_builtin (b := .append) (xs := #[.tmp 65, .tmp 70]) rfl ?_); at_builtin; refine Kd.R_append k32 (w0 := w) w.heap.size rfl (.tmp 65) (.tmp 70) 22 32 (.agg #[(.string ⟨#[]⟩), (.string ⟨#[]⟩)]) 32 rfl Tryd.underlying22 info32 rfl (by decide) (by omega) u11 x11_4 (⟨(rd_T32 l0 x55_4).f0, (rd_T32 l0 x55_4).f1⟩ : S32) [.string ((rd_T32 l0 x55_4).f0), .string ((rd_T32 l0 x55_4).f1)] (fun k_ => some k_ ≠ (v522 : Value).ownBlock ∧ some k_ ≠ (u12 : Value).ownBlock) (fun _ => False) rfl rfl ?aP (fun _ hk => hk.elim) ?aF ?aO ?aB ?aS ?aL ?_; (case aP => exact k32_mkM _ _ _ (⟨(rd_T32 l0 x55_4).f0, (rd_T32 l0 x55_4).f1⟩ : S32)); (case aB => exact (by repeat (first | (with_reducible first | exact HB.out | apply below_alloc | apply pw_below_drewN | apply below_drew1) | exact HB.out))); (case aF => exact (fun k_ hk => ⟨Kd.fresh' (Kd.R_lt (by (with_reducible repeat (first | apply Kd.R_alloc | apply Kd.R_drewN | apply Kd.R_drew)); exact HO_5.out)) k_ hk, Kd.fresh' (Kd.R_lt (by (with_reducible repeat (first | apply Kd.R_alloc | apply Kd.R_drewN | apply Kd.R_drew)); exact HO_12.out)) k_ hk⟩)); (case aO => exact (by (with_reducible repeat (first | apply Kd.R_alloc | apply Kd.R_drewN | apply Kd.R_drew)); exact HO_11.out)); (case aS => exact (below_size (by repeat (first | (with_reducible first | exact HB.out | apply below_alloc | apply pw_below_drewN | apply below_drew1) | exact HB.out)))); (case aL => have := LMc37.out; omega); intro v541 w44 ho hb hg hat; rw [← Ny540.out] at ho; have n0_ := Aside0.mk (Kd.R_after (ok := (fun k_ => some k_ ≠ (u12 : Value).ownBlock)) (by (with_reducible repeat (first | apply Kd.R_alloc | apply Kd.R_drewN | apply Kd.R_drew)); exact Kd.R_mono HO_5.out (fun _ hk => ⟨hk.2, hk.1⟩)) hg hat); have n1_ := Aside0.mk (Kd.R_after (ok := (fun k_ => some k_ ≠ (v522 : Value).ownBlock)) (by (with_reducible repeat (first | apply Kd.R_alloc | apply Kd.R_drewN | apply Kd.R_drew)); exact HO_12.out) hg hat); have n2_ := Aside0.mk (Kd.R_over' (by (with_reducible repeat (first | apply Kd.R_alloc | apply Kd.R_drewN | apply Kd.R_drew)); exact HO_47.out) (Kd.R_typed (by (with_reducible repeat (first | apply Kd.R_alloc | apply Kd.R_drewN | apply Kd.R_drew)); exact HO_11.out)) (by decide) hg); have n3_ := Aside0.mk (hb); have n4_ := Aside0.mk (ho); clear HO_5; clear HO_12; clear HO_47; clear HB; clear HO_11; have HO_5 := n0_; have HO_12 := n1_; have HO_47 := n2_; have HB := n3_; have HO542 := n4_; clear n0_ n1_ n2_ n3_ n4_; clear ho hb hg hat; obtain ⟨Ao45, co45, eo45⟩ := Kd.R_slice HO_5.out; subst eo45; have p543 : 0 ≤ (x55_4 : Int) := of_decide_eq_true (by first | (with_reducible assumption) | assumption); have q543 : x55_4 < (t521.length : Int) := of_decide_eq_true (by first | (with_reducible assumption) | assumption); obtain ⟨ad543, e543, hx543_0, hx543_1⟩ := at_T32 (Kd.R_reads' HO_5.out).2.2 x55_4 p543 q543; cases e543; replace p543 := eq_true p543; replace q543 := eq_true q543))
                                            go_roundg k4
                                            case measure => have := HJ5.out; have := HK2.out; have := HK3.out; have := HK4.out; omega
                                            case rel => exact ⟨(y540), (x12_4), (wrap64 (x55_4 + 1)), (by first | rfl | (simp; done) | (simp [*]; done)), H', ⟨by have := HJ5.out; have := HK2.out; have := HK3.out; have := HK4.out; omega⟩, ⟨by (with_reducible repeat (first | apply Kd.R_alloc | apply Kd.R_drewN | apply Kd.R_drew)); exact Kd.R_mono HO_5.out (fun _ hk => ⟨hk.2, hk.1⟩)⟩, ⟨by (with_reducible repeat (first | apply Kd.R_alloc | apply Kd.R_drewN | apply Kd.R_drew)); exact HO542.out⟩, ⟨by (with_reducible repeat (first | apply Kd.R_alloc | apply Kd.R_drewN | apply Kd.R_drew)); exact HO_12.out⟩, ⟨by (with_reducible repeat (first | apply Kd.R_alloc | apply Kd.R_drewN | apply Kd.R_drew)); exact HO_47.out⟩, ⟨by repeat (first | (with_reducible first | exact HB.out | apply below_alloc | apply pw_below_drewN | apply below_drew1) | exact HB.out)⟩⟩
                                        · rw [if_neg c38] at H
                                          exact absurd H (by simp)
                                      · rw [if_neg c37] at H
                                        exact absurd H (by simp)
                                    · rw [if_neg c36] at H
                                      have c36b0 : (((rd_T32 l0 x55_4).f0).toList == (rdOf ByteArray.empty x6_2 x49_3).toList) = false := beq_eq_false_iff_ne.mpr c36
                                      have c36b1 : (((rd_T32 l0 x55_4).f0).toList != (rdOf ByteArray.empty x6_2 x49_3).toList) = true := bne_iff_ne.mpr c36
                                      by_cases c46 : x55_4 < (t521.length : Int)
                                      · rw [if_pos c46] at H
                                        have c46b0 : decide (x55_4 < (t521.length : Int)) = true := decide_eq_true c46
                                        clear c46
                                        by_cases c47 : ((rd_T32 t521 x55_4).f0).toList = (rdOf ByteArray.empty x6_2 x49_3).toList
                                        · rw [if_pos c47] at H
                                          have c47b0 : (((rd_T32 t521 x55_4).f0).toList == (rdOf ByteArray.empty x6_2 x49_3).toList) = true := beq_iff_eq.mpr c47
                                          have c47b1 : (((rd_T32 t521 x55_4).f0).toList != (rdOf ByteArray.empty x6_2 x49_3).toList) = false := bne_eq_false_iff_eq.mpr c47
                                          clear c47
                                          by_cases c48 : x12_4.length < 4398046511104
                                          · rw [if_pos c48] at H
                                            have LMc48 := Aside0.mk c48
                                            clear c48
                                            obtain ⟨y550, hy550⟩ : ∃ y_ : List (S32), y_ = (x12_4 ++ [(⟨(rd_T32 t521 x55_4).f0, (rd_T32 t521 x55_4).f1⟩ : S32)]) := ⟨_, rfl⟩
                                            replace H : (bastionlaw11_QuerySorted.l2 k4 l0 t521 (rdOf ByteArray.empty x6_2 x49_3) x11_4 y550 x6_2 (x6_2.length : Int) x49_3 (l0.length : Int) (wrap64 (x55_4 + 1))) = some r := by first | (rw [hy550]; with_reducible exact H) | (have H2_ := (Option.bind_some _ _).symm.trans H; rw [hy550]; with_reducible exact H2_) | (have H2_ := (Option.bind_some _ _).symm.trans H; with_reducible exact H2_) | with_reducible exact H | (rw [hy550]; exact H) | exact H
                                            have Ny550 := Aside0.mk hy550
                                            clear hy550
                                            have H' := Aside0.mk H
                                            clear H
                                            have p538 : 0 ≤ (x55_4 : Int) := of_decide_eq_true (by first | (with_reducible assumption) | assumption)
                                            have q538 : x55_4 < (l0.length : Int) := of_decide_eq_true (by first | (with_reducible assumption) | assumption)
                                            obtain ⟨ad538, e538, hx538_0, hx538_1⟩ := at_T32 HR0.out x55_4 p538 q538
                                            cases e538
                                            replace hx538_0 := (HB.out.cell (World.block_lt_of_cell? w _ hx538_0)).trans hx538_0
                                            replace hx538_1 := (HB.out.cell (World.block_lt_of_cell? w _ hx538_1)).trans hx538_1
                                            replace p538 := eq_true p538
                                            replace q538 := eq_true q538
                                            obtain ⟨Ao49, co49, eo49⟩ := Kd.R_slice HO_5.out
                                            subst eo49
                                            have p548 : 0 ≤ (x55_4 : Int) := of_decide_eq_true (by first | (with_reducible assumption) | assumption)
                                            have q548 : x55_4 < (t521.length : Int) := of_decide_eq_true (by first | (with_reducible assumption) | assumption)
                                            obtain ⟨ad548, e548, hx548_0, hx548_1⟩ := at_T32 (Kd.R_reads' HO_5.out).2.2 x55_4 p548 q548
                                            cases e548
                                            replace p548 := eq_true p548
                                            replace q548 := eq_true q548
                                            have p549 : 0 ≤ (x55_4 : Int) := of_decide_eq_true (by first | (with_reducible assumption) | assumption)
                                            have q549 : x55_4 < (t521.length : Int) := of_decide_eq_true (by first | (with_reducible assumption) | assumption)
                                            obtain ⟨ad549, e549, hx549_0, hx549_1⟩ := at_T32 (Kd.R_reads' HO_5.out).2.2 x55_4 p549 q549
                                            obtain rfl : ad548 = ad549 := (by injection e549)
                                            replace p549 := eq_true p549
                                            replace q549 := eq_true q549
                                            go_wp2_with (first | ((with_reducible refine gate_builtin (b := .append) (xs := #[.tmp 79, .tmp 84]) rfl ?_); at_builtin; refine Kd.R_append k32 (w0 := w) w.heap.size rfl (.tmp 79) (.tmp 84) 22 32 (.agg #[(.string ⟨#[]⟩), (.string ⟨#[]⟩)]) 32 rfl Tryd.underlying22 info32 rfl (by decide) (by omega) u12 x12_4 (⟨(rd_T32 t521 x55_4).f0, (rd_T32 t521 x55_4).f1⟩ : S32) [.string ((rd_T32 t521 x55_4).f0), .string ((rd_T32 t521 x55_4).f1)] (fun k_ => some k_ ≠ (.slice (some ad548) t521.length co49 : Value).ownBlock ∧ some k_ ≠ (u11 : Value).ownBlock) (fun _ => False) rfl rfl ?aP (fun _ hk => hk.elim) ?aF ?aO ?aB ?aS ?aL ?_; (case aP => exact k32_mkM _ _ _ (⟨(rd_T32 t521 x55_4).f0, (rd_T32 t521 x55_4).f1⟩ : S32)); (case aB => exact (by repeat (first | (with_reducible first | exact HB.out | apply below_alloc | apply pw_below_drewN | apply below_drew1) | exact HB.out))); (case aF => exact (fun k_ hk => ⟨Kd.fresh' (Kd.R_lt (by (with_reducible repeat (first | apply Kd.R_alloc | apply Kd.R_drewN | apply Kd.R_drew)); exact HO_5.out)) k_ hk, Kd.fresh' (Kd.R_lt (by (with_reducible repeat (first | apply Kd.R_alloc | apply Kd.R_drewN | apply Kd.R_drew)); exact HO_11.out)) k_ hk⟩)); (case aO => exact (by (with_reducible repeat (first | apply Kd.R_alloc | apply Kd.R_drewN | apply Kd.R_drew)); exact HO_12.out)); (case aS => exact (below_size (by repeat (first | (with_reducible first | exact HB.out | apply below_alloc | apply pw_below_drewN | apply below_drew1) | exact HB.out)))); (case aL => have := LMc48.out; omega); intro v551 w50 ho hb hg hat; rw [← Ny550.out] at ho; have n0_ := Aside0.mk (Kd.R_after (ok := (fun k_ => some k_ ≠ (u11 : Value).ownBlock)) (by (with_reducible repeat (first | apply Kd.R_alloc | apply Kd.R_drewN | apply Kd.R_drew)); exact HO_5.out) hg hat); have n1_ := Aside0.mk (Kd.R_after (ok := (fun k_ => some k_ ≠ (.slice (some ad548) t521.length co49 : Value).ownBlock)) (by (with_reducible repeat (first | apply Kd.R_alloc | apply Kd.R_drewN | apply Kd.R_drew)); exact HO_11.out) hg hat); have n2_ := Aside0.mk (Kd.R_over' (by (with_reducible repeat (first | apply Kd.R_alloc | apply Kd.R_drewN | apply Kd.R_drew)); exact HO_47.out) (Kd.R_typed (by (with_reducible repeat (first | apply Kd.R_alloc | apply Kd.R_drewN | apply Kd.R_drew)); exact HO_12.out)) (by decide) hg); have n3_ := Aside0.mk (hb); have n4_ := Aside0.mk (ho); clear HO_5; clear HO_11; clear HO_47; clear HB; clear HO_12; have HO_5 := n0_; have HO_11 := n1_; have HO_47 := n2_; have HB := n3_; have HO552 := n4_; clear n0_ n1_ n2_ n3_ n4_; clear ho hb hg hat))
                                            go_roundg k4
                                            case measure => have := HJ5.out; have := HK2.out; have := HK3.out; have := HK4.out; omega
                                            case rel => exact ⟨(x11_4), (y550), (wrap64 (x55_4 + 1)), (by first | rfl | (simp; done) | (simp [*]; done)), H', ⟨by have := HJ5.out; have := HK2.out; have := HK3.out; have := HK4.out; omega⟩, ⟨by (with_reducible repeat (first | apply Kd.R_alloc | apply Kd.R_drewN | apply Kd.R_drew)); exact HO_5.out⟩, ⟨by (with_reducible repeat (first | apply Kd.R_alloc | apply Kd.R_drewN | apply Kd.R_drew)); exact HO_11.out⟩, ⟨by (with_reducible repeat (first | apply Kd.R_alloc | apply Kd.R_drewN | apply Kd.R_drew)); exact HO552.out⟩, ⟨by (with_reducible repeat (first | apply Kd.R_alloc | apply Kd.R_drewN | apply Kd.R_drew)); exact HO_47.out⟩, ⟨by repeat (first | (with_reducible first | exact HB.out | apply below_alloc | apply pw_below_drewN | apply below_drew1) | exact HB.out)⟩⟩
                                          · rw [if_neg c48] at H
                                            exact absurd H (by simp)
                                        · rw [if_neg c47] at H
                                          have c47b0 : (((rd_T32 t521 x55_4).f0).toList == (rdOf ByteArray.empty x6_2 x49_3).toList) = false := beq_eq_false_iff_ne.mpr c47
                                          have c47b1 : (((rd_T32 t521 x55_4).f0).toList != (rdOf ByteArray.empty x6_2 x49_3).toList) = true := bne_iff_ne.mpr c47
                                          have H' := Aside0.mk H
                                          clear H
                                          have p538 : 0 ≤ (x55_4 : Int) := of_decide_eq_true (by first | (with_reducible assumption) | assumption)
                                          have q538 : x55_4 < (l0.length : Int) := of_decide_eq_true (by first | (with_reducible assumption) | assumption)
                                          obtain ⟨ad538, e538, hx538_0, hx538_1⟩ := at_T32 HR0.out x55_4 p538 q538
                                          cases e538
                                          replace hx538_0 := (HB.out.cell (World.block_lt_of_cell? w _ hx538_0)).trans hx538_0
                                          replace hx538_1 := (HB.out.cell (World.block_lt_of_cell? w _ hx538_1)).trans hx538_1
                                          replace p538 := eq_true p538
                                          replace q538 := eq_true q538
                                          obtain ⟨Ao51, co51, eo51⟩ := Kd.R_slice HO_5.out
                                          subst eo51
                                          have p548 : 0 ≤ (x55_4 : Int) := of_decide_eq_true (by first | (with_reducible assumption) | assumption)
                                          have q548 : x55_4 < (t521.length : Int) := of_decide_eq_true (by first | (with_reducible assumption) | assumption)
                                          obtain ⟨ad548, e548, hx548_0, hx548_1⟩ := at_T32 (Kd.R_reads' HO_5.out).2.2 x55_4 p548 q548
                                          cases e548
                                          replace p548 := eq_true p548
                                          replace q548 := eq_true q548
                                          go_wp2
                                          go_roundg k4
                                          case measure => have := HJ5.out; have := HK2.out; have := HK3.out; have := HK4.out; omega
                                          case rel => exact ⟨(x11_4), (x12_4), (wrap64 (x55_4 + 1)), (by first | rfl | (simp; done) | (simp [*]; done)), H', ⟨by have := HJ5.out; have := HK2.out; have := HK3.out; have := HK4.out; omega⟩, ⟨by (with_reducible repeat (first | apply Kd.R_alloc | apply Kd.R_drewN | apply Kd.R_drew)); exact HO_5.out⟩, ⟨by (with_reducible repeat (first | apply Kd.R_alloc | apply Kd.R_drewN | apply Kd.R_drew)); exact HO_11.out⟩, ⟨by (with_reducible repeat (first | apply Kd.R_alloc | apply Kd.R_drewN | apply Kd.R_drew)); exact HO_12.out⟩, ⟨by (with_reducible repeat (first | apply Kd.R_alloc | apply Kd.R_drewN | apply Kd.R_drew)); exact HO_47.out⟩, ⟨by repeat (first | (with_reducible first | exact HB.out | apply below_alloc | apply pw_below_drewN | apply below_drew1) | exact HB.out)⟩⟩
                                      · rw [if_neg c46] at H
                                        exact absurd H (by simp)
                                  · exact absurd (by first | exact of_eq_true c33b0 | exact of_decide_eq_true c33b0 | exact beq_iff_eq.mp c33b0 | assumption) c35
                                · rw [if_neg c34] at H
                                  exact absurd H (by simp)
                              · rw [if_neg c33] at H
                                have c33b0 : decide (x55_4 < (l0.length : Int)) = false := decide_eq_false c33
                                clear c33
                                replace H := Option.bind_eq_some_iff.mp H
                                obtain ⟨t537, A520, H⟩ := H
                                replace H : (if t537 = true then (bastionlaw11_QuerySorted.l1 k4 l0 t521 x6_2 (x6_2.length : Int) (wrap64 (x49_3 + 1))) else (some false)) = some r := H
                                have A52 := Aside0.mk A520
                                clear A520
                                by_cases c53 : t537 = true
                                · subst c53
                                  have H1 : (bastionlaw11_QuerySorted.l1 k4 l0 t521 x6_2 (x6_2.length : Int) (wrap64 (x49_3 + 1))) = some r := by rw [if_pos rfl] at H; exact H
                                  clear H
                                  have H := H1
                                  clear H1
                                  have H' := Aside0.mk H
                                  clear H
                                  obtain ⟨Ao54, co54, eo54⟩ := Kd.R_slice HO_11.out
                                  subst eo54
                                  obtain ⟨Ao55, co55, eo55⟩ := Kd.R_slice HO_12.out
                                  subst eo55
                                  go_wp2_with (first | ((with_reducible refine gate_callee (f := 14) rfl ?_); refine goesL_ (some 89) rfl rfl Tryd.func14 (by kernel_rfl) rfl #[.slice Ao54 x11_4.length co54, .slice Ao55 x12_4.length co55] rfl (by (try simp only [List.map_toArray, List.map_cons, List.map_nil]); first | done | rfl | (simp only [List.length_drop, List.length_take]; rfl)) ?_; (with_reducible refine (bastionref11_Same.calls k4 _ _ x11_4 _ _ x12_4 true _ ?side1 ?side2 ?side3 ?side4 A52.out).mono ?_); (case side1 => repeat (first | exact (Kd.R_reads' HO_11.out).2.2 | (with_reducible refine Kd.C_alloc ?_ _) | (with_reducible refine Kd.C_drewN ?_ _) | (with_reducible refine Kd.C_drew ?_))); (case side2 => exact (Kd.R_reads' HO_11.out).2.1); (case side3 => repeat (first | exact (Kd.R_reads' HO_12.out).2.2 | (with_reducible refine Kd.C_alloc ?_ _) | (with_reducible refine Kd.C_drewN ?_ _) | (with_reducible refine Kd.C_drew ?_))); (case side4 => exact (Kd.R_reads' HO_12.out).2.1); rintro e w' ⟨rfl, ⟨nd, rfl⟩⟩; refine ⟨_, rfl, ?_⟩))
                                  go_roundg k4
                                  case measure => have := HJ5.out; have := HK2.out; have := HK3.out; have := HK4.out; omega
                                  case rel => exact ⟨(wrap64 (x49_3 + 1)), (by first | rfl | (simp; done) | (simp [*]; done)), H', ⟨by have := HJ5.out; have := HK2.out; have := HK3.out; have := HK4.out; omega⟩, ⟨by (with_reducible repeat (first | apply Kd.R_alloc | apply Kd.R_drewN | apply Kd.R_drew)); exact Kd.R_mono HO_5.out (fun _ hk => trivial)⟩, ⟨by (with_reducible repeat (first | apply Kd.R_alloc | apply Kd.R_drewN | apply Kd.R_drew)); exact HO_47.out⟩, ⟨by repeat (first | (with_reducible first | exact HB.out | apply below_alloc | apply pw_below_drewN | apply below_drew1) | exact HB.out)⟩⟩
                                · replace c53 := Bool.eq_false_iff.mpr c53
                                  subst c53
                                  have H1 : (some false) = some r := by rw [if_neg (show ¬ (false = true) by decide)] at H; exact H
                                  clear H
                                  have H := H1
                                  clear H1
                                  obtain rfl := Option.some.inj H
                                  obtain ⟨Ao56, co56, eo56⟩ := Kd.R_slice HO_11.out
                                  subst eo56
                                  obtain ⟨Ao57, co57, eo57⟩ := Kd.R_slice HO_12.out
                                  subst eo57
                                  go_wp2_with (first | ((with_reducible refine gate_callee (f := 14) rfl ?_); refine goesL_ (some 89) rfl rfl Tryd.func14 (by kernel_rfl) rfl #[.slice Ao56 x11_4.length co56, .slice Ao57 x12_4.length co57] rfl (by (try simp only [List.map_toArray, List.map_cons, List.map_nil]); first | done | rfl | (simp only [List.length_drop, List.length_take]; rfl)) ?_; (with_reducible refine (bastionref11_Same.calls k4 _ _ x11_4 _ _ x12_4 false _ ?side1 ?side2 ?side3 ?side4 A52.out).mono ?_); (case side1 => repeat (first | exact (Kd.R_reads' HO_11.out).2.2 | (with_reducible refine Kd.C_alloc ?_ _) | (with_reducible refine Kd.C_drewN ?_ _) | (with_reducible refine Kd.C_drew ?_))); (case side2 => exact (Kd.R_reads' HO_11.out).2.1); (case side3 => repeat (first | exact (Kd.R_reads' HO_12.out).2.2 | (with_reducible refine Kd.C_alloc ?_ _) | (with_reducible refine Kd.C_drewN ?_ _) | (with_reducible refine Kd.C_drew ?_))); (case side4 => exact (Kd.R_reads' HO_12.out).2.1); rintro e w' ⟨rfl, ⟨nd, rfl⟩⟩; refine ⟨_, rfl, ?_⟩))
                                  go_ret
                                  exact ⟨by first | rfl | (simp [errW_none, errW_some] <;> rfl) | (simp [*, errW_none, errW_some] <;> rfl), by repeat (first | (with_reducible first | exact HB.out | apply below_alloc | apply pw_below_drewN | apply below_drew1) | exact HB.out)⟩
                        · rw [if_neg c32] at H
                          exact absurd H (by simp)
                      · rw [if_neg c31] at H
                        exact absurd H (by simp)
                    · rw [if_neg c30] at H
                      have c30b0 : decide (x49_3 < (x6_2.length : Int)) = false := decide_eq_false c30
                      clear c30
                      obtain rfl := Option.some.inj H
                      go_wp2
                      go_ret
                      exact ⟨by first | rfl | (simp [errW_none, errW_some] <;> rfl) | (simp [*, errW_none, errW_some] <;> rfl), by repeat (first | (with_reducible first | exact HB.out | apply below_alloc | apply pw_below_drewN | apply below_drew1) | exact HB.out)⟩
  · replace c4 := Bool.eq_false_iff.mpr c4
    subst c4
    have H1 : (some false) = some r := by rw [if_neg (show ¬ (false = true) by decide)] at H; exact H
    clear H
    have H := H1
    clear H1
    obtain rfl := Option.some.inj H
    go_enter Tryd.func7, Tryd.ntmps7
    go_wp2_with (first | ((with_reducible refine gate_callee (f := 13) rfl ?_); refine goesL_ (some 14) rfl rfl Tryd.func13 (by kernel_rfl) rfl #[] rfl (by (try simp only [List.map_toArray, List.map_cons, List.map_nil]); first | done | rfl | (simp only [List.length_drop, List.length_take]; rfl)) ?_; (with_reducible refine (bastionlaw11_lives.calls k  false _ ?side1 A3.out).mono ?_); (case side1 => exact UTabs.below HTB.out (by repeat (first | (with_reducible first | exact HB.out | apply below_alloc | apply pw_below_drewN | apply below_drew1) | exact HB.out))); rintro e w58 ⟨rfl, hb⟩; refine ⟨_, rfl, ?_⟩; have n0_ := Aside0.mk (below_step (by repeat (first | (with_reducible first | exact HB.out | apply below_alloc | apply pw_below_drewN | apply below_drew1) | exact HB.out)) hb); clear HB; have HB := n0_; clear n0_; (try clear hb); (try clear hb2); (try clear hk); (try clear hi)))
    go_ret
    exact ⟨by first | rfl | (simp [errW_none, errW_some] <;> rfl) | (simp [*, errW_none, errW_some] <;> rfl), by repeat (first | (with_reducible first | exact HB.out | apply below_alloc | apply pw_below_drewN | apply below_drew1) | exact HB.out)⟩
end Go.Proofs.YtbcbmmlpgdndpaaDoor.Q
