/- The plain law of PctJoins: what stands behind one another is encoded by itself; a byte becomes itself or three. -/
import Derived.Test.YtiobcjgolmiabaaPctP2
import Derived.Test.YtiobcjgolmiabaaPctLives
import Derived.Test.YtiobcjgolmiabaaQPctJoins
namespace Go.Proofs.Ytiobcjgolmiabaa.Q
open Go.RowKit Go.Proofs.YtiobcjgolmiabaaW.PrintWords Go.Proofs.YtiobcjgolmiabaaW.PrintLast Go.Proofs.YtiobcjgolmiabaaW.PrintMore Go.Proofs.Ytiobcjgolmiabaa.P1
def manyIn (s : Int) (l : List UInt8) : Nat := (l.filter fun c => inB s (c.toNat : Int)).length
theorem encL_many (s : Int) (l : List UInt8) : (encL s l).length = l.length + 2 * manyIn s l := by
  induction l with
  | nil => rfl
  | cons c l ih =>
    rw [encL_cons, List.length_append, ih]
    unfold encByte manyIn
    by_cases h : inB s (c.toNat : Int) = true
    · rw [if_pos h, List.filter_cons_of_pos (by exact h)]; simp; omega
    · rw [if_neg h, List.filter_cons_of_neg (by exact h)]; simp; omega
theorem manyIn_le (s : Int) (l : List UInt8) : manyIn s l ≤ l.length := List.length_filter_le _ _
theorem joins_l0 (s : Int) (a x y z : List UInt8) (hz : z = x ++ y) (hx : x.length = a.length + 2 * manyIn s a) (ha : a.length ≤ 1048576) (hxy : x.length + y.length ≤ 140737488355000) (n : Nat) : ∀ (r p : List UInt8) (m : Nat) (k : Nat), r.length ≤ n → n + 40 ≤ k → a = p ++ r → m + manyIn s r = manyIn s a →
    bastionlaw01_PctJoins.l0 k (B a) s (B x) (B y) (B z) m p.length = some true := by
  have hfin : ∀ m : Nat, m = manyIn s a → (if (B x).size + (B y).size ≤ 9223372036854775807 then (if (B z).toList = (B x ++ B y).toList then (some (((B x).size : Int) == (wrap64 (((B a).size : Int) + (wrap64 (2 * (m : Int))))))) else (some false)) else (none)) = some true := by
    intro m hm
    have := manyIn_le s a
    rw [if_pos (by rw [B_size, B_size]; omega), if_pos (by rw [B_append, hz]), B_size, B_size, w64 (i := 2 * (m : Int)) (by omega) (by omega), w64 (by omega) (by omega), hx, hm]
    simp
  induction n with
  | zero =>
    intro r p m k hl hk hp hm
    obtain ⟨k, rfl⟩ : ∃ m, k = m + 1 := ⟨k - 1, by omega⟩
    obtain rfl : r = [] := List.eq_nil_of_length_eq_zero (by omega)
    simp only [bastionlaw01_PctJoins.l0]
    rw [if_neg (by rw [B_size, hp]; simp)]
    exact hfin m (by simpa [manyIn] using hm)
  | succ n ih =>
    intro r p m k hl hk hp hm
    obtain ⟨k, rfl⟩ : ∃ m, k = m + 1 := ⟨k - 1, by omega⟩
    simp only [bastionlaw01_PctJoins.l0]
    cases r with
    | nil =>
      rw [if_neg (by rw [B_size, hp]; simp)]
      exact hfin m (by simpa [manyIn] using hm)
    | cons c r =>
      have hle : a.length = p.length + (r.length + 1) := by rw [hp]; simp
      have hml := manyIn_le s a
      have h0 : bt (B a) p.length = (c.toNat : Int) := by rw [hp, bt_end p (c :: r) 0 _ (by omega)]; rfl
      rw [if_pos (by rw [B_size, hle]; omega), if_pos (by omega), h0, pct_In_k s c.toNat k (by omega), w64 (i := (p.length : Int) + 1) (by omega) (by omega), w64 (i := (m : Int) + 1) (by omega) (by omega)]
      simp only [Option.bind_some]
      by_cases hin : inB s (c.toNat : Int) = true
      · rw [if_pos hin]
        have hn := ih r (p ++ [c]) (m + 1) k (by simpa using hl) (by omega) (by rw [hp]; simp) (by unfold manyIn at hm ⊢; rw [List.filter_cons_of_pos (by exact hin)] at hm; simp at hm; omega)
        rw [show (((p ++ [c]).length : Nat) : Int) = (p.length : Int) + 1 by simp] at hn
        exact hn
      · rw [if_neg hin]
        have hn := ih r (p ++ [c]) m k (by simpa using hl) (by omega) (by rw [hp]; simp) (by unfold manyIn at hm ⊢; rw [List.filter_cons_of_neg (by exact hin)] at hm; exact hm)
        rw [show (((p ++ [c]).length : Nat) : Int) = (p.length : Int) + 1 by simp] at hn
        exact hn
theorem PctJoins_pure (a b : ByteArray) (s : Int) (hs : (Lit.int .u8 s).wf = true) (hab : a.size + b.size ≤ 1048576) : ∃ k, bastionlaw01_PctJoins.f k a b s = some true := by
  obtain ⟨a, rfl⟩ := B_ex a
  obtain ⟨b, rfl⟩ := B_ex b
  rw [B_size, B_size] at hab
  replace hs := u8_bounds hs
  refine Ev.rounds (g := fun k => bastionlaw01_PctJoins.f k (B a) (B b) s) ?_
  unfold bastionlaw01_PctJoins.f
  refine lives_ev.bind (Ev.ite_pos rfl ?_)
  by_cases h : 1 ≤ s ∧ s < 9
  · have h1 := encL_length s a
    have h2 := encL_length s b
    refine (Ev.const (pct_Encode_good a s h.1 h.2 (by omega))).bind ((Ev.const (pct_Encode_good b s h.1 h.2 (by omega))).bind (Ev.ite_pos (by rw [B_size, B_size]; omega) ?_))
    rw [B_append]
    refine (Ev.const (pct_Encode_good (a ++ b) s h.1 h.2 (by simp; omega))).bind (Ev.ite_pos rfl ?_)
    exact Ev.mk (a.length + 40) fun k hk => joins_l0 s a (encL s a) (encL s b) (encL s (a ++ b)) (encL_append s a b) (encL_many s a) (by omega) (by omega) a.length a [] 0 k (Nat.le_refl _) hk rfl (by simp)
  · refine (Ev.const (pct_Encode_bad a s (by omega))).bind ((Ev.const (pct_Encode_bad b s (by omega))).bind (Ev.ite_pos (by rw [B_size, B_size]; omega) ?_))
    rw [B_append]
    refine (Ev.const (pct_Encode_bad (a ++ b) s (by omega))).bind (Ev.ite_neg (by decide) (Ev.ite_pos rfl ?_))
    exact Ev.now true
end Go.Proofs.Ytiobcjgolmiabaa.Q
