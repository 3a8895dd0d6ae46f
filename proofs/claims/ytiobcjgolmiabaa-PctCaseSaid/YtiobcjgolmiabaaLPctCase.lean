/- The plain law of PctCase: letters that are turned. -/
import Derived.Test.YtiobcjgolmiabaaPctP2
import Derived.Test.YtiobcjgolmiabaaPctLives
import Derived.Test.YtiobcjgolmiabaaQPctCase
namespace Go.Proofs.Ytiobcjgolmiabaa.Q
open Go.RowKit Go.Proofs.YtiobcjgolmiabaaW.PrintWords Go.Proofs.YtiobcjgolmiabaaW.PrintLast Go.Proofs.YtiobcjgolmiabaaW.PrintMore Go.Proofs.Ytiobcjgolmiabaa.P1
theorem lu_tab : ∀ b : Fin 256, lowC (upC b.val.toUInt8) = lowC b.val.toUInt8 := by decide +kernel
theorem ul_tab : ∀ b : Fin 256, upC (lowC b.val.toUInt8) = upC b.val.toUInt8 := by decide +kernel
theorem map_lu (l : List UInt8) : (l.map upC).map lowC = l.map lowC := by
  rw [List.map_map]; exact List.map_congr_left fun c _ => all_c (p := fun c => lowC (upC c) = lowC c) lu_tab c
theorem map_ul (l : List UInt8) : (l.map lowC).map upC = l.map upC := by
  rw [List.map_map]; exact List.map_congr_left fun c _ => all_c (p := fun c => upC (lowC c) = upC c) ul_tab c
theorem PctCase_pure (a b : ByteArray) (ha : a.size ≤ 140737488351232) (hb : b.size ≤ 140737488351232) : ∃ k, bastionlaw01_PctCase.f k a b = some true := by
  obtain ⟨a, rfl⟩ := B_ex a
  obtain ⟨b, rfl⟩ := B_ex b
  rw [B_size] at ha hb
  refine Ev.rounds (g := fun k => bastionlaw01_PctCase.f k (B a) (B b)) ?_
  unfold bastionlaw01_PctCase.f
  have lu := pct_Upper_f a (by omega)
  have ll := pct_Lower_f a (by omega)
  have lb := pct_Lower_f b (by omega)
  have ab : B a ++ B b = B (a ++ b) := B_append a b
  have hj : Ev (fun k => bastionlaw01_PctCase.j0 k (B a) (B b) false) true := Ev.mk 1 fun k hk => by
    obtain ⟨k, rfl⟩ : ∃ m, k = m + 1 := ⟨k - 1, by omega⟩
    simp only [bastionlaw01_PctCase.j0]
    rw [if_neg (by decide), lu]
    simp only [Option.bind_some]
    rw [pct_Same_f a (a.map upC) (by omega) (by simp; omega), pct_Same_f a b (by omega) (by omega), pct_Same_f b a (by omega) (by omega)]
    simp only [Option.bind_some]
    rw [if_pos (by rw [map_lu]; simp), if_pos (by rw [Bool.beq_comm (a := a.map lowC)]; simp)]
    by_cases h : a.map lowC = b.map lowC
    · have := congrArg List.length h
      simp only [List.length_map] at this
      rw [if_pos (by simp [h]), B_size, B_size, this]; simp
    · rw [if_neg (by simpa using h)]
  refine lives_ev.bind (Ev.ite_pos rfl ((Ev.const lu).bind ((Ev.const (pct_Lower_f _ (by simp; omega))).bind ((Ev.const ll).bind (Ev.ite_pos (by rw [map_lu]) ((Ev.const ll).bind ((Ev.const (pct_Upper_f _ (by simp; omega))).bind ((Ev.const lu).bind (Ev.ite_pos (by rw [map_ul]) (Ev.ite_pos (by rw [B_size, B_size]; omega) ?_))))))))))
  rw [ab]
  refine (Ev.const (pct_Lower_f (a ++ b) (by simp; omega))).bind ((Ev.const ll).bind ((Ev.const lb).bind (Ev.ite_pos (by rw [B_size, B_size]; simp; omega) ?_)))
  simpa [B_append, B_toList] using hj
end Go.Proofs.Ytiobcjgolmiabaa.Q
