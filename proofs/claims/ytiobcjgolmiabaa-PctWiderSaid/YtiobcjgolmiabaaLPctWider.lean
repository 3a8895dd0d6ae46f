/- The plain law of PctWider: finite. -/
import Derived.Test.YtiobcjgolmiabaaPctLives
import Derived.Test.YtiobcjgolmiabaaPctT
import Derived.Test.YtiobcjgolmiabaaQPctWider
namespace Go.Proofs.Ytiobcjgolmiabaa.Q
open Go.RowKit Go.Proofs.YtiobcjgolmiabaaW.PrintWords Go.Proofs.YtiobcjgolmiabaaW.PrintLast Go.Proofs.YtiobcjgolmiabaaW.PrintMore Go.Proofs.Ytiobcjgolmiabaa.P1
theorem wider_tab : ∀ b : Fin 256, bastionlaw01_PctWider.f 140 (b.val : Int) = some true := by decide +kernel
theorem PctWider_pure (a : Int) (ha : (Lit.int .u8 a).wf = true) : ∃ k, bastionlaw01_PctWider.f k a = some true := by
  replace ha := u8_bounds ha
  have := wider_tab ⟨a.toNat, by omega⟩
  rw [show (((⟨a.toNat, by omega⟩ : Fin 256).val : Int)) = a by simp; omega] at this
  exact ⟨140, this⟩
end Go.Proofs.Ytiobcjgolmiabaa.Q
