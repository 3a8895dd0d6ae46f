/- The plain law of UtfWrites. -/
import Derived.Test.YtiobcjgolmiabaaDoorUtfLaws
import Derived.Test.YtiobcjgolmiabaaDoorQUtfWrites
namespace Go.Proofs.YtiobcjgolmiabaaDoor.Q
open Go.RowKit Go.Proofs.YtiobcjgolmiabaaDoorW.PrintWords Go.Proofs.YtiobcjgolmiabaaDoorW.PrintLast Go.Proofs.YtiobcjgolmiabaaDoorW.PrintMore Go.Proofs.YtiobcjgolmiabaaDoor.P1
theorem UtfWrites_pure (l : List Int) (r : Int) (hl : ∀ x ∈ l, (Lit.int .i32 x).wf = true) (hr : (Lit.int .i32 r).wf = true) (h : l.length ≤ 1048576) : ∃ k, bastionlaw02_UtfWrites.f k l r = some true := by
  refine Ev.rounds (g := fun k => bastionlaw02_UtfWrites.f k l r) ?_
  unfold bastionlaw02_UtfWrites.f
  refine (Ev.const rfl).bind (Ev.ite_pos (by simp; omega) ((Ev.const rfl).bind ?_))
  rw [List.nil_append]
  refine lives_ev.bind (Ev.ite_pos rfl ((Ev.const (utf_Encode_f l (by omega) (fun x hx => wf_32 (hl x hx)))).bind ((ref_Encode_ev l (by omega)).bind (Ev.ite_pos rfl ((Ev.const (utf_Width_f r (wf_32 hr))).bind ((ref_Width_ev r).bind (Ev.ite_pos rfl ((ref_Same_ev _ _ (by omega)).bind ?_))))))))
  simpa using Ev.now true
end Go.Proofs.YtiobcjgolmiabaaDoor.Q
