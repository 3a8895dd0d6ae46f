/- Functions of the given program as plain Lean functions, each with the proof that the machine answers as it does; laid by a program of mine over the kit print. -/
import Derived.Test.YtkabhnbjjnjdhaaDoorSQbase
import Derived.Test.YtkabhnbjjnjdhaaDoorSASplit
namespace Go.Proofs.YtkabhnbjjnjdhaaDoor.Q
open Go.RowKit Go.Proofs.YtkabhnbjjnjdhaaDoorW.PrintWords Go.Proofs.YtkabhnbjjnjdhaaDoorW.PrintLast Go.Proofs.YtkabhnbjjnjdhaaDoorW.PrintMore
attribute [local go_sem] max2_int min2_int max_two min_two max_three min_three max_four min_four
set_option linter.unusedVariables false
set_option linter.unusedSimpArgs false
def addr_parts.f (a0 : ByteArray) : Option (List ByteArray) := (strings_Split.f a0 (⟨#[46]⟩ : ByteArray)).bind fun t163 => (if (t163.length : Int) > 1 then (if 0 ≤ (wrap64 ((t163.length : Int) - 1)) then (if (wrap64 ((t163.length : Int) - 1)) < (t163.length : Int) then (if (rdOf ByteArray.empty t163 (wrap64 ((t163.length : Int) - 1))).toList = ([] : List UInt8) then (if (wrap64 ((t163.length : Int) - 1)) ≤ (t163.length : Int) then (some (t163.take ((wrap64 ((t163.length : Int) - 1)) : Int).toNat)) else (none)) else (some t163)) else (none)) else (none)) else (some t163))
set_option maxHeartbeats 8000000 in
set_option maxRecDepth 100000 in
theorem addr_parts.calls (a0 : ByteArray) (r : List ByteArray) (w : World) (hT : UTabs w) (h : addr_parts.f a0 = some r) :
    Calls Tryd.prog 23 #[.string a0] w fun e w' => ∃ v0_ : Value, e = .returned (v0_) ∧ Kd.R Kd.string 9 w' w.heap.size (fun _ => True) v0_ r ∧ Below w.heap.size w w' := by
  have HB := Aside0.mk (Below.refl w.heap.size w)
  have HTB := Aside0.mk hT
  clear hT
  have H : ((strings_Split.f a0 (⟨#[46]⟩ : ByteArray)).bind fun t163 => (if (t163.length : Int) > 1 then (if 0 ≤ (wrap64 ((t163.length : Int) - 1)) then (if (wrap64 ((t163.length : Int) - 1)) < (t163.length : Int) then (if (rdOf ByteArray.empty t163 (wrap64 ((t163.length : Int) - 1))).toList = ([] : List UInt8) then (if (wrap64 ((t163.length : Int) - 1)) ≤ (t163.length : Int) then (some (t163.take ((wrap64 ((t163.length : Int) - 1)) : Int).toNat)) else (none)) else (some t163)) else (none)) else (none)) else (some t163))) = some r := h
  clear h
  replace H := Option.bind_eq_some_iff.mp H
  obtain ⟨t163, A20, H⟩ := H
  replace H : (if (t163.length : Int) > 1 then (if 0 ≤ (wrap64 ((t163.length : Int) - 1)) then (if (wrap64 ((t163.length : Int) - 1)) < (t163.length : Int) then (if (rdOf ByteArray.empty t163 (wrap64 ((t163.length : Int) - 1))).toList = ([] : List UInt8) then (if (wrap64 ((t163.length : Int) - 1)) ≤ (t163.length : Int) then (some (t163.take ((wrap64 ((t163.length : Int) - 1)) : Int).toNat)) else (none)) else (some t163)) else (none)) else (none)) else (some t163)) = some r := H
  have A2 := Aside0.mk A20
  clear A20
  by_cases c3 : (t163.length : Int) > 1
  · rw [if_pos c3] at H
    have c3b0 : decide (1 < (t163.length : Int)) = true := decide_eq_true c3
    have c3b1 : decide (1 < t163.length) = true := decide_eq_true (by omega)
    clear c3
    obtain ⟨ji4, hji4⟩ : ∃ j_ : Int, (wrap64 ((t163.length : Int) - 1)) = j_ := ⟨_, rfl⟩
    replace H : (if 0 ≤ (ji4) then (if (ji4) < (t163.length : Int) then (if (rdOf ByteArray.empty t163 (ji4)).toList = ([] : List UInt8) then (if (ji4) ≤ (t163.length : Int) then (some (t163.take ((ji4) : Int).toNat)) else (none)) else (some t163)) else (none)) else (none)) = some r := by first | (rw [hji4] at H; exact H) | (simp only [hji4] at H ⊢; exact H)
    (try rw [hji4] at A2)
    have hji4w : (IntKind.i64.wrap ((t163.length : Int) - 1)) = ji4 := (i64_w _).trans hji4
    by_cases c5 : 0 ≤ (ji4)
    · rw [if_pos c5] at H
      have c5b0 : decide (0 ≤ (ji4)) = true := decide_eq_true c5
      clear c5
      by_cases c6 : (ji4) < (t163.length : Int)
      · rw [if_pos c6] at H
        have c6b0 : decide ((ji4) < (t163.length : Int)) = true := decide_eq_true c6
        clear c6
        by_cases c7 : (rdOf ByteArray.empty t163 (ji4)).toList = ([] : List UInt8)
        · rw [if_pos c7] at H
          have c7b0 : ((rdOf ByteArray.empty t163 (ji4)).toList == ([] : List UInt8)) = true := beq_iff_eq.mpr c7
          have c7b1 : ((rdOf ByteArray.empty t163 (ji4)).toList != ([] : List UInt8)) = false := bne_eq_false_iff_eq.mpr c7
          clear c7
          by_cases c8 : (ji4) ≤ (t163.length : Int)
          · rw [if_pos c8] at H
            have c8b0 := eq_true c8
            have c8b1 : decide ((ji4) ≤ (t163.length : Int)) = true := decide_eq_true c8
            clear c8
            obtain ⟨y167, hy167⟩ : ∃ y_ : List ByteArray, y_ = (t163.take ((ji4) : Int).toNat) := ⟨_, rfl⟩
            replace H : (some y167) = some r := by first | (rw [hy167]; with_reducible exact H) | (have H2_ := (Option.bind_some _ _).symm.trans H; rw [hy167]; with_reducible exact H2_) | (have H2_ := (Option.bind_some _ _).symm.trans H; with_reducible exact H2_) | with_reducible exact H | (rw [hy167]; exact H) | exact H
            have Ny167 := Aside0.mk hy167
            clear hy167
            obtain rfl := Option.some.inj H
            go_enter Tryd.func23, Tryd.ntmps23
            go_wp2_with (first | ((with_reducible refine gate_callee (f := 37) rfl ?_); refine goesL_ (some 6) rfl rfl Tryd.func37 (by kernel_rfl) rfl #[.string a0, .string (⟨#[46]⟩ : ByteArray)] rfl (by (try simp only [List.map_toArray, List.map_cons, List.map_nil]); first | done | rfl | (simp only [List.length_drop, List.length_take]; rfl)) ?_; (with_reducible refine (strings_Split.calls a0 (⟨#[46]⟩ : ByteArray) t163 _ ?side1 A2.out).mono ?_); (case side1 => exact UTabs.below HTB.out (by repeat (first | (with_reducible first | exact HB.out | apply below_alloc | apply pw_below_drewN | apply below_drew1) | exact HB.out))); rintro e w9 ⟨v164, rfl, ho0, hb⟩; refine ⟨_, rfl, ?_⟩; have n0_ := Aside0.mk (Kd.R_lower ho0 (below_size (by repeat (first | (with_reducible first | exact HB.out | apply below_alloc | apply pw_below_drewN | apply below_drew1) | exact HB.out)))); have n1_ := Aside0.mk (below_step (by repeat (first | (with_reducible first | exact HB.out | apply below_alloc | apply pw_below_drewN | apply below_drew1) | exact HB.out)) hb); clear HB; have HO165 := n0_; have HB := n1_; clear n0_ n1_; (try clear hb); (try clear hb2); (try clear hk); (try clear hi); (try clear ho0); obtain ⟨Ao10, co10, eo10⟩ := Kd.R_slice HO165.out; subst eo10; have p166 : 0 ≤ ((ji4) : Int) := of_decide_eq_true (by first | (with_reducible assumption) | assumption); have q166 : (ji4) < (t163.length : Int) := of_decide_eq_true (by first | (with_reducible assumption) | assumption); obtain ⟨ad166, e166, hx166_0⟩ := Kd.at_string (Kd.R_reads' HO165.out).2.2 (ji4) p166 q166; cases e166; replace p166 := eq_true p166; replace q166 := eq_true q166; have q11 : ((ji4) : Int) ≤ ((t163.length : Int) : Int) := of_decide_eq_true (by first | (with_reducible assumption) | assumption); obtain ⟨i011, hi011, _, hsz11, _⟩ := info_parts info9; have hcut11 := cut_to (P := Tryd.prog) 40 9 .i64 Tryd.underlying40 hi011 (some ad166) t163.length co10 (ji4) (of_decide_eq_true (by first | (with_reducible assumption) | assumption)) q11 (Kd.R_reads' HO165.out).2.1; have hr11 := Kd.R_take (m := ((ji4) : Int).toNat) HO165.out (by omega); have hy11 : y167.length = ((ji4) : Int).toNat := (by rw [Ny167.out, List.length_take]; omega); rw [← Ny167.out] at hr11; rw [← hy11] at hr11 hcut11; clear hy11 hi011 hsz11 HO165; have HO169 := Aside0.mk hr11; clear hr11; replace q11 := eq_true q11))
            go_ret
            exact ⟨_, by first | rfl | (simp [errW_none, errW_some] <;> rfl) | (simp only [← hji4]; first | rfl | (simp [errW_none, errW_some] <;> rfl)) | (simp [*, errW_none, errW_some] <;> rfl), by (with_reducible repeat (first | apply Kd.R_alloc | apply Kd.R_drewN | apply Kd.R_drew)); exact HO169.out, by repeat (first | (with_reducible first | exact HB.out | apply below_alloc | apply pw_below_drewN | apply below_drew1) | exact HB.out)⟩
          · rw [if_neg c8] at H
            exact absurd H (by simp)
        · rw [if_neg c7] at H
          have c7b0 : ((rdOf ByteArray.empty t163 (ji4)).toList == ([] : List UInt8)) = false := beq_eq_false_iff_ne.mpr c7
          have c7b1 : ((rdOf ByteArray.empty t163 (ji4)).toList != ([] : List UInt8)) = true := bne_iff_ne.mpr c7
          obtain rfl := Option.some.inj H
          go_enter Tryd.func23, Tryd.ntmps23
          go_wp2_with (first | ((with_reducible refine gate_callee (f := 37) rfl ?_); refine goesL_ (some 6) rfl rfl Tryd.func37 (by kernel_rfl) rfl #[.string a0, .string (⟨#[46]⟩ : ByteArray)] rfl (by (try simp only [List.map_toArray, List.map_cons, List.map_nil]); first | done | rfl | (simp only [List.length_drop, List.length_take]; rfl)) ?_; (with_reducible refine (strings_Split.calls a0 (⟨#[46]⟩ : ByteArray) t163 _ ?side1 A2.out).mono ?_); (case side1 => exact UTabs.below HTB.out (by repeat (first | (with_reducible first | exact HB.out | apply below_alloc | apply pw_below_drewN | apply below_drew1) | exact HB.out))); rintro e w12 ⟨v164, rfl, ho0, hb⟩; refine ⟨_, rfl, ?_⟩; have n0_ := Aside0.mk (Kd.R_lower ho0 (below_size (by repeat (first | (with_reducible first | exact HB.out | apply below_alloc | apply pw_below_drewN | apply below_drew1) | exact HB.out)))); have n1_ := Aside0.mk (below_step (by repeat (first | (with_reducible first | exact HB.out | apply below_alloc | apply pw_below_drewN | apply below_drew1) | exact HB.out)) hb); clear HB; have HO165 := n0_; have HB := n1_; clear n0_ n1_; (try clear hb); (try clear hb2); (try clear hk); (try clear hi); (try clear ho0); obtain ⟨Ao13, co13, eo13⟩ := Kd.R_slice HO165.out; subst eo13; have p166 : 0 ≤ ((ji4) : Int) := of_decide_eq_true (by first | (with_reducible assumption) | assumption); have q166 : (ji4) < (t163.length : Int) := of_decide_eq_true (by first | (with_reducible assumption) | assumption); obtain ⟨ad166, e166, hx166_0⟩ := Kd.at_string (Kd.R_reads' HO165.out).2.2 (ji4) p166 q166; cases e166; replace p166 := eq_true p166; replace q166 := eq_true q166))
          go_ret
          exact ⟨_, by first | rfl | (simp [errW_none, errW_some] <;> rfl) | (simp only [← hji4]; first | rfl | (simp [errW_none, errW_some] <;> rfl)) | (simp [*, errW_none, errW_some] <;> rfl), by (with_reducible repeat (first | apply Kd.R_alloc | apply Kd.R_drewN | apply Kd.R_drew)); exact HO165.out, by repeat (first | (with_reducible first | exact HB.out | apply below_alloc | apply pw_below_drewN | apply below_drew1) | exact HB.out)⟩
      · rw [if_neg c6] at H
        exact absurd H (by simp)
    · rw [if_neg c5] at H
      exact absurd H (by simp)
  · rw [if_neg c3] at H
    have c3b0 : decide (1 < (t163.length : Int)) = false := decide_eq_false c3
    have c3b1 : decide (1 < t163.length) = false := decide_eq_false (by omega)
    clear c3
    obtain rfl := Option.some.inj H
    go_enter Tryd.func23, Tryd.ntmps23
    go_wp2_with (first | ((with_reducible refine gate_callee (f := 37) rfl ?_); refine goesL_ (some 6) rfl rfl Tryd.func37 (by kernel_rfl) rfl #[.string a0, .string (⟨#[46]⟩ : ByteArray)] rfl (by (try simp only [List.map_toArray, List.map_cons, List.map_nil]); first | done | rfl | (simp only [List.length_drop, List.length_take]; rfl)) ?_; (with_reducible refine (strings_Split.calls a0 (⟨#[46]⟩ : ByteArray) t163 _ ?side1 A2.out).mono ?_); (case side1 => exact UTabs.below HTB.out (by repeat (first | (with_reducible first | exact HB.out | apply below_alloc | apply pw_below_drewN | apply below_drew1) | exact HB.out))); rintro e w14 ⟨v164, rfl, ho0, hb⟩; refine ⟨_, rfl, ?_⟩; have n0_ := Aside0.mk (Kd.R_lower ho0 (below_size (by repeat (first | (with_reducible first | exact HB.out | apply below_alloc | apply pw_below_drewN | apply below_drew1) | exact HB.out)))); have n1_ := Aside0.mk (below_step (by repeat (first | (with_reducible first | exact HB.out | apply below_alloc | apply pw_below_drewN | apply below_drew1) | exact HB.out)) hb); clear HB; have HO165 := n0_; have HB := n1_; clear n0_ n1_; (try clear hb); (try clear hb2); (try clear hk); (try clear hi); (try clear ho0); obtain ⟨Ao15, co15, eo15⟩ := Kd.R_slice HO165.out; subst eo15))
    go_ret
    exact ⟨_, by first | rfl | (simp [errW_none, errW_some] <;> rfl) | (simp [*, errW_none, errW_some] <;> rfl), by (with_reducible repeat (first | apply Kd.R_alloc | apply Kd.R_drewN | apply Kd.R_drew)); exact HO165.out, by repeat (first | (with_reducible first | exact HB.out | apply below_alloc | apply pw_below_drewN | apply below_drew1) | exact HB.out)⟩
end Go.Proofs.YtkabhnbjjnjdhaaDoor.Q
