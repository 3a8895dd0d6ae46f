/- The plain law of PctReads: decoding and the turning of letters answer as the reference's. -/
import Derived.Test.YtiobcjgolmiabaaPctP2
import Derived.Test.YtiobcjgolmiabaaPctLives
import Derived.Test.YtiobcjgolmiabaaQPctReads
namespace Go.Proofs.Ytiobcjgolmiabaa.Q
open Go.RowKit Go.Proofs.YtiobcjgolmiabaaW.PrintWords Go.Proofs.YtiobcjgolmiabaaW.PrintLast Go.Proofs.YtiobcjgolmiabaaW.PrintMore Go.Proofs.Ytiobcjgolmiabaa.P1
theorem PctReads_pure (a b : ByteArray) (ha : a.size ≤ 140737488351232) (hb : b.size ≤ 140737488351232) : ∃ k, bastionlaw01_PctReads.f k a b = some true := by
  obtain ⟨a, rfl⟩ := B_ex a
  obtain ⟨b, rfl⟩ := B_ex b
  rw [B_size] at ha hb
  refine Ev.rounds (g := fun k => bastionlaw01_PctReads.f k (B a) (B b)) ?_
  unfold bastionlaw01_PctReads.f
  refine lives_ev.bind (Ev.ite_pos rfl ((pct_Decode_ev a (by omega)).bind ((ref_Decode_ev a (by omega)).bind (Ev.ite_pos rfl ?_))))
  refine (Ev.const (pct_Lower_f a (by omega))).bind ((ref_Lower_ev a (by omega)).bind (Ev.ite_pos rfl ?_))
  refine (Ev.const (pct_Upper_f a (by omega))).bind ((ref_Upper_ev a (by omega)).bind (Ev.ite_pos rfl ?_))
  refine (Ev.const (pct_Same_f a b (by omega) (by omega))).bind ((ref_Same_ev a b (by omega) (by omega)).bind ?_)
  simpa using Ev.now true
end Go.Proofs.Ytiobcjgolmiabaa.Q
