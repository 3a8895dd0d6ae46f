/- The plain law of PctBack: what is encoded is decoded as the text, or as what the text is decoded as. -/
import Derived.Test.YtiobcjgolmiabaaPctP2
import Derived.Test.YtiobcjgolmiabaaPctLives
import Derived.Test.YtiobcjgolmiabaaQPctBack
namespace Go.Proofs.Ytiobcjgolmiabaa.Q
open Go.RowKit Go.Proofs.YtiobcjgolmiabaaW.PrintWords Go.Proofs.YtiobcjgolmiabaaW.PrintLast Go.Proofs.YtiobcjgolmiabaaW.PrintMore Go.Proofs.Ytiobcjgolmiabaa.P1
theorem back_l0 (s : Int) (l : List UInt8) (hl0 : ∀ c ∈ l, c = 37 ∨ inB s (c.toNat : Int) = false) (hlen : l.length ≤ 140737488355000) (n : Nat) : ∀ (r p : List UInt8) (k : Nat), r.length ≤ n → n + 40 ≤ k → l = p ++ r →
    bastionlaw01_PctBack.l0 k s (B l) p.length = some true := by
  induction n with
  | zero =>
    intro r p k hl hk hp
    obtain ⟨k, rfl⟩ : ∃ m, k = m + 1 := ⟨k - 1, by omega⟩
    obtain rfl : r = [] := List.eq_nil_of_length_eq_zero (by omega)
    simp only [bastionlaw01_PctBack.l0]
    rw [if_neg (by rw [B_size, hp]; simp)]
  | succ n ih =>
    intro r p k hl hk hp
    obtain ⟨k, rfl⟩ : ∃ m, k = m + 1 := ⟨k - 1, by omega⟩
    simp only [bastionlaw01_PctBack.l0]
    cases r with
    | nil => rw [if_neg (by rw [B_size, hp]; simp)]
    | cons c r =>
      have hle : l.length = p.length + (r.length + 1) := by rw [hp]; simp
      have h0 : bt (B l) p.length = (c.toNat : Int) := by rw [hp, bt_end p (c :: r) 0 _ (by omega)]; rfl
      have hn := ih r (p ++ [c]) k (by simpa using hl) (by omega) (by rw [hp]; simp)
      rw [show (((p ++ [c]).length : Nat) : Int) = (p.length : Int) + 1 by simp] at hn
      rw [if_pos (by rw [B_size, hle]; omega), if_pos (by omega), h0, w64 (by omega) (by omega)]
      by_cases e : c = 37
      · subst e
        rw [if_pos (by decide)]; exact hn
      · have hc : inB s (c.toNat : Int) = false := (hl0 c (by rw [hp]; simp)).resolve_left e
        rw [if_neg (by intro h; apply e; exact UInt8.toNat_inj.mp (by have : (37 : UInt8).toNat = 37 := rfl; omega)), pct_In_k s c.toNat k (by omega), hc]
        simp only [Option.bind_some]
        rw [if_neg (by decide)]; exact hn
theorem PctBack_pure (a : ByteArray) (s : Int) (hs : (Lit.int .u8 s).wf = true) (ha : a.size ≤ 1048576) : ∃ k, bastionlaw01_PctBack.f k a s = some true := by
  obtain ⟨a, rfl⟩ := B_ex a
  rw [B_size] at ha
  replace hs := u8_bounds hs
  refine Ev.rounds (g := fun k => bastionlaw01_PctBack.f k (B a) s) ?_
  unfold bastionlaw01_PctBack.f
  refine lives_ev.bind (Ev.ite_pos rfl ?_)
  by_cases h : 1 ≤ s ∧ s < 9
  · obtain ⟨s', hs'⟩ := s_fin hs.1 h.2
    have hl := encL_length s a
    have hj : Ev (fun k => bastionlaw01_PctBack.j0 k s (B (encL s a)) false) true := Ev.mk ((encL s a).length + 42) fun k hk => by
      obtain ⟨k, rfl⟩ : ∃ m, k = m + 1 := ⟨k - 1, by omega⟩
      simp only [bastionlaw01_PctBack.j0]
      rw [if_neg (by decide)]
      exact back_l0 s (encL s a) (by rw [hs']; exact encL_no s' a) (by omega) (encL s a).length (encL s a) [] k (Nat.le_refl _) (by omega) rfl
    refine (Ev.const (pct_Encode_good a s h.1 h.2 (by omega))).bind (Ev.ite_pos rfl ?_)
    refine (Ev.const (pct_Encode_good (encL s a) s h.1 h.2 (by omega))).bind ((Ev.mk 30 fun k hk => pct_In_k s 37 k hk).bind (Ev.ite_pos rfl ?_))
    have hp := pct_in s'
    rw [← hs'] at hp
    by_cases h7 : 7 ≤ s'.val
    · refine Ev.ite_pos (by rw [hp]; exact decide_eq_true h7) ((pct_Decode_ev (encL s a) (by omega)).bind (Ev.ite_pos ?_ hj))
      rw [hs', decL_encL_sign s' h7]
    · refine Ev.ite_neg (by rw [hp]; simpa using h7) (Ev.ite_pos ?_ ((pct_Decode_ev (encL s a) (by omega)).bind ((pct_Decode_ev a (by omega)).bind ?_)))
      · rw [hs', encL_twice s' h7]
      · have e : decL (encL s a) = decL a := by rw [hs']; exact decL_encL s' h7 a.length a (Nat.le_refl _)
        rw [e]
        simpa using hj
  · refine (Ev.const (pct_Encode_bad a s (by omega))).bind (Ev.ite_neg (by decide) ?_)
    rw [B_toList]
    exact Ev.now true
end Go.Proofs.Ytiobcjgolmiabaa.Q
