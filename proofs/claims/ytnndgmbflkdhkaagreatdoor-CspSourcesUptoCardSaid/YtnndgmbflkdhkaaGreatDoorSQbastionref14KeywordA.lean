/- Functions of the given program as plain Lean functions, each with the proof that the machine answers as it does; laid by a program of mine over the kit print. -/
import Derived.Test.YtnndgmbflkdhkaaGreatDoorSQbase
namespace Go.Proofs.YtnndgmbflkdhkaaGreatDoor.Q
open Go.RowKit Go.Proofs.YtnndgmbflkdhkaaGreatDoorW.PrintWords Go.Proofs.YtnndgmbflkdhkaaGreatDoorW.PrintLast Go.Proofs.YtnndgmbflkdhkaaGreatDoorW.PrintMore
attribute [local go_sem] max2_int min2_int max_two min_two max_three min_three max_four min_four
set_option linter.unusedVariables false
set_option linter.unusedSimpArgs false
def bastionref14_Keyword.l0 : Nat → ByteArray → List ByteArray → Int → Int → Option (Bool)
 | 0, _, _, _, _ => none
 | k + 1, x0, x5, x6, x7 => if x7 < x6 then (if 0 ≤ x7 then (if x7 < (x5.length : Int) then (if (rdOf ByteArray.empty x5 x7).toList = x0.toList then (some true) else (bastionref14_Keyword.l0 k x0 x5 x6 (wrap64 (x7 + 1)))) else (none)) else (none)) else (some false)
def bastionref14_Keyword.f (k : Nat) (a0 : ByteArray) : Option (Bool) := (some (([(⟨#[115, 101, 108, 102]⟩ : ByteArray), (⟨#[110, 111, 110, 101]⟩ : ByteArray), (⟨#[117, 110, 115, 97, 102, 101, 45, 105, 110, 108, 105, 110, 101]⟩ : ByteArray), (⟨#[117, 110, 115, 97, 102, 101, 45, 101, 118, 97, 108]⟩ : ByteArray), (⟨#[115, 116, 114, 105, 99, 116, 45, 100, 121, 110, 97, 109, 105, 99]⟩ : ByteArray), (⟨#[117, 110, 115, 97, 102, 101, 45, 104, 97, 115, 104, 101, 115]⟩ : ByteArray), (⟨#[114, 101, 112, 111, 114, 116, 45, 115, 97, 109, 112, 108, 101]⟩ : ByteArray), (⟨#[119, 97, 115, 109, 45, 117, 110, 115, 97, 102, 101, 45, 101, 118, 97, 108]⟩ : ByteArray)] : List ByteArray) : List ByteArray)).bind fun y131 => (bastionref14_Keyword.l0 k a0 y131 (y131.length : Int) 0)
set_option maxHeartbeats 8000000 in
set_option maxRecDepth 100000 in
theorem bastionref14_Keyword.calls (k : Nat) (a0 : ByteArray) (r : Bool) (w : World) (h : bastionref14_Keyword.f k a0 = some r) :
  Calls Tryz.prog 76 #[.string a0] w fun e w' => e = .returned (.bool r) ∧ Below w.heap.size w w' := by
 have HB := Aside0.mk (Below.refl w.heap.size w)
 have H : ((some (([(⟨#[115, 101, 108, 102]⟩ : ByteArray), (⟨#[110, 111, 110, 101]⟩ : ByteArray), (⟨#[117, 110, 115, 97, 102, 101, 45, 105, 110, 108, 105, 110, 101]⟩ : ByteArray), (⟨#[117, 110, 115, 97, 102, 101, 45, 101, 118, 97, 108]⟩ : ByteArray), (⟨#[115, 116, 114, 105, 99, 116, 45, 100, 121, 110, 97, 109, 105, 99]⟩ : ByteArray), (⟨#[117, 110, 115, 97, 102, 101, 45, 104, 97, 115, 104, 101, 115]⟩ : ByteArray), (⟨#[114, 101, 112, 111, 114, 116, 45, 115, 97, 109, 112, 108, 101]⟩ : ByteArray), (⟨#[119, 97, 115, 109, 45, 117, 110, 115, 97, 102, 101, 45, 101, 118, 97, 108]⟩ : ByteArray)] : List ByteArray) : List ByteArray)).bind fun y131 => (bastionref14_Keyword.l0 k a0 y131 (y131.length : Int) 0)) = some r := h
 clear h
 obtain ⟨y131, hy131⟩ : ∃ y_ : List ByteArray, y_ = (([(⟨#[115, 101, 108, 102]⟩ : ByteArray), (⟨#[110, 111, 110, 101]⟩ : ByteArray), (⟨#[117, 110, 115, 97, 102, 101, 45, 105, 110, 108, 105, 110, 101]⟩ : ByteArray), (⟨#[117, 110, 115, 97, 102, 101, 45, 101, 118, 97, 108]⟩ : ByteArray), (⟨#[115, 116, 114, 105, 99, 116, 45, 100, 121, 110, 97, 109, 105, 99]⟩ : ByteArray), (⟨#[117, 110, 115, 97, 102, 101, 45, 104, 97, 115, 104, 101, 115]⟩ : ByteArray), (⟨#[114, 101, 112, 111, 114, 116, 45, 115, 97, 109, 112, 108, 101]⟩ : ByteArray), (⟨#[119, 97, 115, 109, 45, 117, 110, 115, 97, 102, 101, 45, 101, 118, 97, 108]⟩ : ByteArray)] : List ByteArray)) := ⟨_, rfl⟩
 replace H : (bastionref14_Keyword.l0 k a0 y131 (y131.length : Int) 0) = some r := by first | (rw [hy131]; with_reducible exact H) | (have H2_ := (Option.bind_some _ _).symm.trans H; rw [hy131]; with_reducible exact H2_) | (have H2_ := (Option.bind_some _ _).symm.trans H; with_reducible exact H2_) | with_reducible exact H | (rw [hy131]; exact H) | exact H
 have Ny131 := Aside0.mk hy131
 clear hy131
 have H' := Aside0.mk H
 clear H
 go_enter Tryz.func76, Tryz.ntmps76
 go_wp2_with (first | ((with_reducible refine gate_dst (N := 5) rfl ?_); refine Kd.R_lit Kd.string _ 9 ?hg (N := 5) ?hd (xs := ([(⟨#[115, 101, 108, 102]⟩ : ByteArray), (⟨#[110, 111, 110, 101]⟩ : ByteArray), (⟨#[117, 110, 115, 97, 102, 101, 45, 105, 110, 108, 105, 110, 101]⟩ : ByteArray), (⟨#[117, 110, 115, 97, 102, 101, 45, 101, 118, 97, 108]⟩ : ByteArray), (⟨#[115, 116, 114, 105, 99, 116, 45, 100, 121, 110, 97, 109, 105, 99]⟩ : ByteArray), (⟨#[117, 110, 115, 97, 102, 101, 45, 104, 97, 115, 104, 101, 115]⟩ : ByteArray), (⟨#[114, 101, 112, 111, 114, 116, 45, 115, 97, 109, 112, 108, 101]⟩ : ByteArray), (⟨#[119, 97, 115, 109, 45, 117, 110, 115, 97, 102, 101, 45, 101, 118, 97, 108]⟩ : ByteArray)] : List ByteArray)) (inner := [.string (⟨#[115, 101, 108, 102]⟩ : ByteArray), .string (⟨#[110, 111, 110, 101]⟩ : ByteArray), .string (⟨#[117, 110, 115, 97, 102, 101, 45, 105, 110, 108, 105, 110, 101]⟩ : ByteArray), .string (⟨#[117, 110, 115, 97, 102, 101, 45, 101, 118, 97, 108]⟩ : ByteArray), .string (⟨#[115, 116, 114, 105, 99, 116, 45, 100, 121, 110, 97, 109, 105, 99]⟩ : ByteArray), .string (⟨#[117, 110, 115, 97, 102, 101, 45, 104, 97, 115, 104, 101, 115]⟩ : ByteArray), .string (⟨#[114, 101, 112, 111, 114, 116, 45, 115, 97, 109, 112, 108, 101]⟩ : ByteArray), .string (⟨#[119, 97, 115, 109, 45, 117, 110, 115, 97, 102, 101, 45, 101, 118, 97, 108]⟩ : ByteArray)]) (ok := fun _ => True) (okp := fun _ => True) ?hr ?hp (fun _ hk => hk) trivial (Below.refl _ _) (Nat.le_refl _) (by simp) ?_; (case hd => rfl); (case hg => rfl); (case hr => first | (go_simp; done) | (go_simp; rfl)); (case hp => exact (Reps.one (show Kd.M Kd.string _ _ _ (⟨#[115, 101, 108, 102]⟩ : ByteArray) [.string (⟨#[115, 101, 108, 102]⟩ : ByteArray)] from rfl) (Reps.one (show Kd.M Kd.string _ _ _ (⟨#[110, 111, 110, 101]⟩ : ByteArray) [.string (⟨#[110, 111, 110, 101]⟩ : ByteArray)] from rfl) (Reps.one (show Kd.M Kd.string _ _ _ (⟨#[117, 110, 115, 97, 102, 101, 45, 105, 110, 108, 105, 110, 101]⟩ : ByteArray) [.string (⟨#[117, 110, 115, 97, 102, 101, 45, 105, 110, 108, 105, 110, 101]⟩ : ByteArray)] from rfl) (Reps.one (show Kd.M Kd.string _ _ _ (⟨#[117, 110, 115, 97, 102, 101, 45, 101, 118, 97, 108]⟩ : ByteArray) [.string (⟨#[117, 110, 115, 97, 102, 101, 45, 101, 118, 97, 108]⟩ : ByteArray)] from rfl) (Reps.one (show Kd.M Kd.string _ _ _ (⟨#[115, 116, 114, 105, 99, 116, 45, 100, 121, 110, 97, 109, 105, 99]⟩ : ByteArray) [.string (⟨#[115, 116, 114, 105, 99, 116, 45, 100, 121, 110, 97, 109, 105, 99]⟩ : ByteArray)] from rfl) (Reps.one (show Kd.M Kd.string _ _ _ (⟨#[117, 110, 115, 97, 102, 101, 45, 104, 97, 115, 104, 101, 115]⟩ : ByteArray) [.string (⟨#[117, 110, 115, 97, 102, 101, 45, 104, 97, 115, 104, 101, 115]⟩ : ByteArray)] from rfl) (Reps.one (show Kd.M Kd.string _ _ _ (⟨#[114, 101, 112, 111, 114, 116, 45, 115, 97, 109, 112, 108, 101]⟩ : ByteArray) [.string (⟨#[114, 101, 112, 111, 114, 116, 45, 115, 97, 109, 112, 108, 101]⟩ : ByteArray)] from rfl) (Reps.one (show Kd.M Kd.string _ _ _ (⟨#[119, 97, 115, 109, 45, 117, 110, 115, 97, 102, 101, 45, 101, 118, 97, 108]⟩ : ByteArray) [.string (⟨#[119, 97, 115, 109, 45, 117, 110, 115, 97, 102, 101, 45, 101, 118, 97, 108]⟩ : ByteArray)] from rfl) (Reps.none _ _)))))))))); intro v132 w2 ho3 hb hg_ hnew_; clear hg_ hnew_; (first | rw [← Ny131.out] at ho3 | (simp only [Int.reduceToNat] at ho3; rw [← Ny131.out] at ho3)); have n0_ := Aside0.mk (Kd.R_lower ho3 (below_size (by repeat (first | (with_reducible first | exact HB.out | apply below_alloc | apply pw_below_drewN | apply below_drew1) | exact HB.out)))); have n1_ := Aside0.mk (below_step (by repeat (first | (with_reducible first | exact HB.out | apply below_alloc | apply pw_below_drewN | apply below_drew1) | exact HB.out)) hb); clear HB; have HO133 := n0_; have HB := n1_; clear n0_ n1_; clear hb ho3; obtain ⟨Ao4, co4, eo4⟩ := Kd.R_slice HO133.out; subst eo4))
 go_loopg [7] k (fun kq v7 w' => ∃ (x7_1 : Int), v7 = .int .i64 x7_1 ∧ Aside0 (bastionref14_Keyword.l0 kq a0 y131 (y131.length : Int) x7_1 = some r) ∧ Aside0 (kq ≤ k) ∧ Aside0 (Kd.R Kd.string 9 w' w.heap.size (fun _ => True) (.slice Ao4 y131.length co4) y131) ∧ Aside0 (Below w.heap.size w w'))
 case atStart => exact ⟨(0), (by first | rfl | (simp; done) | (simp [*]; done)), H', ⟨Nat.le_refl _⟩, ⟨by (with_reducible repeat (first | apply Kd.R_alloc | apply Kd.R_drewN | apply Kd.R_drew)); exact HO133.out⟩, ⟨by repeat (first | (with_reducible first | exact HB.out | apply below_alloc | apply pw_below_drewN | apply below_drew1) | exact HB.out)⟩⟩
 case round =>
  clear H'
  try clear p2
  obtain ⟨x7_1, rfl, HA, HK1, HO_5, HB⟩ := hrel
  cases gk with
  | zero => exact absurd HA.out (by simp [bastionref14_Keyword.l0])
  | succ k1 =>
   have H := HA.out
   clear HA
   simp only [bastionref14_Keyword.l0] at H
   by_cases c5 : x7_1 < (y131.length : Int)
   ·rw [if_pos c5] at H
    have c5b0 : decide (x7_1 < (y131.length : Int)) = true := decide_eq_true c5
    clear c5
    by_cases c6 : 0 ≤ x7_1
    ·rw [if_pos c6] at H
     have c6b0 : decide (0 ≤ x7_1) = true := decide_eq_true c6
     clear c6
     by_cases c7 : x7_1 < (y131.length : Int)
     ·rw [if_pos c7] at H
      have c7b0 : decide (x7_1 < (y131.length : Int)) = true := decide_eq_true c7
      clear c7
      by_cases c8 : (rdOf ByteArray.empty y131 x7_1).toList = a0.toList
      ·rw [if_pos c8] at H
       have c8b0 : ((rdOf ByteArray.empty y131 x7_1).toList == a0.toList) = true := beq_iff_eq.mpr c8
       have c8b1 : ((rdOf ByteArray.empty y131 x7_1).toList != a0.toList) = false := bne_eq_false_iff_eq.mpr c8
       clear c8
       obtain rfl := Option.some.inj H
       have p134 : 0 ≤ (x7_1 : Int) := of_decide_eq_true (by first | (with_reducible assumption) | assumption)
       have q134 : x7_1 < (y131.length : Int) := of_decide_eq_true (by first | (with_reducible assumption) | assumption)
       obtain ⟨ad134, e134, hx134_0⟩ := Kd.at_string (Kd.R_reads' HO_5.out).2.2 x7_1 p134 q134
       cases e134
       replace p134 := eq_true p134
       replace q134 := eq_true q134
       go_wp2
       go_ret
       exact ⟨by first | rfl | (simp [errW_none, errW_some] <;> rfl) | (simp [*, errW_none, errW_some] <;> rfl), by repeat (first | (with_reducible first | exact HB.out | apply below_alloc | apply pw_below_drewN | apply below_drew1) | exact HB.out)⟩
      ·rw [if_neg c8] at H
       have c8b0 : ((rdOf ByteArray.empty y131 x7_1).toList == a0.toList) = false := beq_eq_false_iff_ne.mpr c8
       have c8b1 : ((rdOf ByteArray.empty y131 x7_1).toList != a0.toList) = true := bne_iff_ne.mpr c8
       have H' := Aside0.mk H
       clear H
       have p134 : 0 ≤ (x7_1 : Int) := of_decide_eq_true (by first | (with_reducible assumption) | assumption)
       have q134 : x7_1 < (y131.length : Int) := of_decide_eq_true (by first | (with_reducible assumption) | assumption)
       obtain ⟨ad134, e134, hx134_0⟩ := Kd.at_string (Kd.R_reads' HO_5.out).2.2 x7_1 p134 q134
       cases e134
       replace p134 := eq_true p134
       replace q134 := eq_true q134
       go_wp2
       go_roundg k1
       case measure => have := HK1.out; omega
       case rel => exact ⟨(wrap64 (x7_1 + 1)), (by first | rfl | (simp; done) | (simp [*]; done)), H', ⟨by have := HK1.out; omega⟩, ⟨by (with_reducible repeat (first | apply Kd.R_alloc | apply Kd.R_drewN | apply Kd.R_drew)); exact HO_5.out⟩, ⟨by repeat (first | (with_reducible first | exact HB.out | apply below_alloc | apply pw_below_drewN | apply below_drew1) | exact HB.out)⟩⟩
     ·exact absurd (by first | exact of_eq_true c5b0 | exact of_decide_eq_true c5b0 | exact beq_iff_eq.mp c5b0 | assumption) c7
    ·rw [if_neg c6] at H
     exact absurd H (by simp)
   ·rw [if_neg c5] at H
    have c5b0 : decide (x7_1 < (y131.length : Int)) = false := decide_eq_false c5
    clear c5
    obtain rfl := Option.some.inj H
    go_wp2
    go_ret
    exact ⟨by first | rfl | (simp [errW_none, errW_some] <;> rfl) | (simp [*, errW_none, errW_some] <;> rfl), by repeat (first | (with_reducible first | exact HB.out | apply below_alloc | apply pw_below_drewN | apply below_drew1) | exact HB.out)⟩
end Go.Proofs.YtnndgmbflkdhkaaGreatDoor.Q
