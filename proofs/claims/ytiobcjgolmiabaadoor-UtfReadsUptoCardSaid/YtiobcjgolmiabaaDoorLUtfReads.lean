/- The plain law of UtfReads. -/
import Derived.Test.YtiobcjgolmiabaaDoorUtfLaws
import Derived.Test.YtiobcjgolmiabaaDoorQUtfReads
namespace Go.Proofs.YtiobcjgolmiabaaDoor.Q
open Go.RowKit Go.Proofs.YtiobcjgolmiabaaDoorW.PrintWords Go.Proofs.YtiobcjgolmiabaaDoorW.PrintLast Go.Proofs.YtiobcjgolmiabaaDoorW.PrintMore Go.Proofs.YtiobcjgolmiabaaDoor.P1
theorem UtfReads_pure (a : ByteArray) (h : a.size ≤ 1048576) : ∃ k, bastionlaw02_UtfReads.f k a = some true := by
  obtain ⟨l, rfl⟩ := B_ex a
  rw [B_size] at h
  have hd := uDec_length l.length l (Nat.le_refl _)
  refine Ev.rounds (g := fun k => bastionlaw02_UtfReads.f k (B l)) ?_
  unfold bastionlaw02_UtfReads.f
  refine lives_ev.bind (Ev.ite_pos rfl ((Ev.const (utf_Decode_f l (by omega))).bind ((ref_Decode_ev l (by omega)).bind ((ref_Same_ev _ _ (by omega)).bind (Ev.ite_pos (by simp) ((Ev.const (utf_Valid_f l (by omega))).bind ((ref_Valid_ev l (by omega)).bind (Ev.ite_pos (by simp) ((Ev.const (utf_Scalar_f l (by omega))).bind ((ref_Scalar_ev l (by omega)).bind ?_))))))))))
  simpa using Ev.now true
end Go.Proofs.YtiobcjgolmiabaaDoor.Q
