/- The plain law of PctSets: the sets and the encoding answer as the reference's. -/
import Derived.Test.YtiobcjgolmiabaaPctP2
import Derived.Test.YtiobcjgolmiabaaPctLives
import Derived.Test.YtiobcjgolmiabaaQPctSets
namespace Go.Proofs.Ytiobcjgolmiabaa.Q
open Go.RowKit Go.Proofs.YtiobcjgolmiabaaW.PrintWords Go.Proofs.YtiobcjgolmiabaaW.PrintLast Go.Proofs.YtiobcjgolmiabaaW.PrintMore Go.Proofs.Ytiobcjgolmiabaa.P1
theorem PctSets_pure (a : ByteArray) (s b : Int) (hs : (Lit.int .u8 s).wf = true) (hb : (Lit.int .u8 b).wf = true) (ha : a.size ≤ 1048576) : ∃ k, bastionlaw01_PctSets.f k a s b = some true := by
  obtain ⟨a, rfl⟩ := B_ex a
  rw [B_size] at ha
  replace hs := u8_bounds hs
  replace hb := u8_bounds hb
  refine Ev.rounds (g := fun k => bastionlaw01_PctSets.f k (B a) s b) ?_
  unfold bastionlaw01_PctSets.f
  have hin : Ev (fun k => (pct_In.f k s b).bind fun t => (bastionref01_In.f k s b).bind fun u => some (t == u)) true := by
    refine (Ev.mk 30 fun k hk => pct_In_k s b k hk).bind ((Ev.mk 40 fun k hk => ref_In_f s b hb.1 (by omega) k hk).bind ?_)
    rw [inR_eq b hs.1]
    simpa using Ev.now true
  by_cases h : 1 ≤ s ∧ s < 9
  · exact (Ev.const (pct_Encode_good a s h.1 h.2 (by omega))).bind ((ref_Encode_good a s h.1 h.2 (by omega)).bind (lives_ev.bind (Ev.ite_pos rfl (Ev.ite_pos rfl (Ev.ite_pos rfl hin)))))
  · exact (Ev.const (pct_Encode_bad a s (by omega))).bind ((ref_Encode_bad a s (by omega)).bind (lives_ev.bind (Ev.ite_pos rfl (Ev.ite_pos rfl (Ev.ite_pos rfl hin)))))
end Go.Proofs.Ytiobcjgolmiabaa.Q
