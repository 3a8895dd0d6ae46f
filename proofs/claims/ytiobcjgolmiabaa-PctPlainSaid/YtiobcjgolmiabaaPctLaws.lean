/- The plain laws of layer 1: what pct's functions answer, answers as the statements say. -/
import Derived.Test.YtiobcjgolmiabaaPctP
import Derived.Test.YtiobcjgolmiabaaQPctPlain
namespace Go.Proofs.Ytiobcjgolmiabaa.Q
open Go.RowKit Go.Proofs.YtiobcjgolmiabaaW.PrintWords Go.Proofs.YtiobcjgolmiabaaW.PrintLast Go.Proofs.YtiobcjgolmiabaaW.PrintMore Go.Proofs.Ytiobcjgolmiabaa.P1
set_option linter.unusedSimpArgs false

theorem lives_now : bastionlaw01_lives.f 100 = some true := by decide +kernel
theorem lives_ev : Ev (fun k => bastionlaw01_lives.f k) true := Ev.of (fun k => bastionlaw01_lives.mono k) lives_now
theorem u8_bounds {a : Int} (h : (Lit.int .u8 a).wf = true) : 0 ≤ a ∧ a ≤ 255 := by
  simpa [Lit.wf, IntKind.min, IntKind.max, IntKind.signed, IntKind.bits] using h

/-! PctPlain -/
theorem plain_l0 (l d : List UInt8) (hd : d.length ≤ l.length) (n : Nat) : ∀ (r p : List UInt8) (k : Nat), r.length ≤ n → n + 2 ≤ k → l = p ++ r → l.length ≤ 140737488355327 → ((37 ∉ r) → d = l) →
    bastionlaw01_PctPlain.l0 k (B l) (B d) p.length = some true := by
  induction n with
  | zero =>
    intro r p k hl hk hlp hs hr
    obtain ⟨k, rfl⟩ : ∃ m, k = m + 1 := ⟨k - 1, by omega⟩
    obtain rfl : r = [] := List.eq_nil_of_length_eq_zero (by omega)
    simp only [bastionlaw01_PctPlain.l0]
    rw [if_neg (by rw [B_size, hlp]; simp), B_toList, B_toList, hr (by simp)]; simp
  | succ n ih =>
    intro r p k hl hk hlp hs hr
    obtain ⟨k, rfl⟩ : ∃ m, k = m + 1 := ⟨k - 1, by omega⟩
    simp only [bastionlaw01_PctPlain.l0]
    cases r with
    | nil => rw [if_neg (by rw [B_size, hlp]; simp), B_toList, B_toList, hr (by simp)]; simp
    | cons c r =>
      have hlen : l.length = p.length + (r.length + 1) := by rw [hlp]; simp
      have h0 : bt (B l) p.length = (c.toNat : Int) := by rw [hlp, bt_end p (c :: r) 0 _ (by omega)]; rfl
      rw [if_pos (by rw [B_size, hlen]; omega), if_pos (by omega), h0]
      by_cases e : c = 37
      · subst e
        rw [if_pos (by decide), B_size, B_size]
        simp; exact hd
      · rw [if_neg (by intro h; apply e; exact UInt8.toNat_inj.mp (by have : (37 : UInt8).toNat = 37 := rfl; omega)), w64 (by omega) (by omega)]
        have := ih r (p ++ [c]) k (by simpa using hl) (by omega) (by rw [hlp]; simp) hs (fun h => hr (by simp; exact ⟨fun h => e h.symm, h⟩))
        rw [show (((p ++ [c]).length : Nat) : Int) = (p.length : Int) + 1 by simp] at this
        exact this
theorem decL_plain (n : Nat) : ∀ l : List UInt8, l.length ≤ n → 37 ∉ l → decL l = l := by
  induction n with
  | zero => intro l h _; rw [List.eq_nil_of_length_eq_zero (by omega : l.length = 0)]; rfl
  | succ n ih =>
    intro l h hn
    cases l with
    | nil => rfl
    | cons c r =>
      simp only [List.mem_cons, not_or] at hn
      rw [decL_cons_ne (fun h => hn.1 h.symm), ih r (by simpa using h) hn.2]
theorem PctPlain_pure (a : ByteArray) (h : a.size ≤ 140737488351232) : ∃ k, bastionlaw01_PctPlain.f k a = some true := by
  obtain ⟨l, rfl⟩ := B_ex a
  rw [B_size] at h
  have h1 : Ev (fun k => bastionlaw01_PctPlain.l0 k (B l) (B (decL l)) 0) true := Ev.mk (l.length + 2) fun k hk =>
    plain_l0 l (decL l) (decL_length _ l (Nat.le_refl _)) l.length l [] k (Nat.le_refl _) hk rfl (by omega) (decL_plain _ l (Nat.le_refl _))
  refine Ev.rounds (g := fun k => bastionlaw01_PctPlain.f k (B l)) ?_
  unfold bastionlaw01_PctPlain.f
  exact lives_ev.bind (Ev.ite_pos rfl ((pct_Decode_ev l (by omega)).bind h1))
end Go.Proofs.Ytiobcjgolmiabaa.Q
