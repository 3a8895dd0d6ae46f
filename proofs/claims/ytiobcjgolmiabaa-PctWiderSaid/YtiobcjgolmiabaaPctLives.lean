/- The examples that each statement of layer 1 asks first stand. -/
import Derived.Test.YtiobcjgolmiabaaStr
import Derived.Test.YtiobcjgolmiabaaEnc
import Derived.Test.YtiobcjgolmiabaaTurn
import Derived.Test.YtiobcjgolmiabaaQbastionlaw011
namespace Go.Proofs.Ytiobcjgolmiabaa.Q
open Go.RowKit Go.Proofs.YtiobcjgolmiabaaW.PrintWords Go.Proofs.YtiobcjgolmiabaaW.PrintLast Go.Proofs.YtiobcjgolmiabaaW.PrintMore Go.Proofs.Ytiobcjgolmiabaa.P1
theorem lives_now : bastionlaw01_lives.f 100 = some true := by decide +kernel
theorem lives_ev : Ev (fun k => bastionlaw01_lives.f k) true := Ev.of (fun k => bastionlaw01_lives.mono k) lives_now
theorem u8_bounds {a : Int} (h : (Lit.int .u8 a).wf = true) : 0 ≤ a ∧ a ≤ 255 := by
  simpa [Lit.wf, IntKind.min, IntKind.max, IntKind.signed, IntKind.bits] using h
end Go.Proofs.Ytiobcjgolmiabaa.Q
