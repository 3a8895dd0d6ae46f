/- The plain law of UtfLong. -/
import Derived.Test.YtiobcjgolmiabaaDoorUtfLaws
import Derived.Test.YtiobcjgolmiabaaDoorQUtfLong
namespace Go.Proofs.YtiobcjgolmiabaaDoor.Q
open Go.RowKit Go.Proofs.YtiobcjgolmiabaaDoorW.PrintWords Go.Proofs.YtiobcjgolmiabaaDoorW.PrintLast Go.Proofs.YtiobcjgolmiabaaDoorW.PrintMore Go.Proofs.YtiobcjgolmiabaaDoor.P1
set_option linter.unusedSimpArgs false
theorem uDec_four (n : Nat) : ∀ l : List UInt8, l.length ≤ n → l.length ≤ 4 * (uDec l).length := by
  induction n with
  | zero => intro l h; omega
  | succ n ih =>
    intro l h
    cases l with
    | nil => simp
    | cons c r =>
      have hb := stepR_bounds c r
      have := ih ((c :: r).drop (stepR (c :: r)).2) (by simp at h ⊢; omega)
      rw [uDec_R, List.length_cons, List.length_cons]
      rw [List.length_drop, List.length_cons] at this
      omega
theorem uDec_plain (l : List UInt8) (h : ∀ c ∈ l, c.toNat < 128) : uDec l = ns l := by
  induction l with
  | nil => rfl
  | cons c r ih =>
    rw [uDec_R, step1 r (h c List.mem_cons_self)]
    simp only [List.drop_succ_cons, List.drop_zero, ns_cons]
    rw [ih (fun d hd => h d (List.mem_cons_of_mem _ hd))]
theorem valid_same (n : Nat) : ∀ l : List UInt8, l.length ≤ n → Lib.validD l = true → (uDec l).length = l.length → ∀ c ∈ l, c.toNat < 128 := by
  induction n with
  | zero => intro l h; rw [List.eq_nil_of_length_eq_zero (by omega : l.length = 0)]; simp
  | succ n ih =>
    intro l h hv hlen
    cases l with
    | nil => simp
    | cons c r =>
      have hb := stepR_bounds c r
      have hle := uDec_length _ ((c :: r).drop (stepR (c :: r)).2) (Nat.le_refl _)
      rw [uDec_R, List.length_cons, List.length_cons] at hlen
      rw [List.length_drop, List.length_cons] at hle
      have h1 : (stepR (c :: r)).2 = 1 := by omega
      rw [validD_R] at hv
      cases hg : goodS (c :: r) with
      | false => rw [hg, if_neg (by decide)] at hv; cases hv
      | true =>
        rw [hg, if_pos rfl, h1] at hv
        rw [h1] at hlen
        have hc := (good_enc c r hg).2 h1
        have := ih r (by simpa using h) hv (by simpa using hlen)
        intro d hd
        rcases List.mem_cons.mp hd with rfl | hd
        · exact hc
        · exact this d hd
theorem long_l1 (l : List UInt8) (hs : l.length ≤ 140737488350000) (n : Nat) : ∀ (r p : List UInt8) (k : Nat), r.length ≤ n → n + 2 ≤ k → l = p ++ r →
    bastionlaw02_UtfLong.l1 k (B l) (ns l) (ns l) ((ns l).length : Int) p.length = some true := by
  induction n with
  | zero =>
    intro r p k hl hk hp
    obtain ⟨k, rfl⟩ : ∃ m, k = m + 1 := ⟨k - 1, by omega⟩
    obtain rfl : r = [] := List.eq_nil_of_length_eq_zero (by omega)
    simp only [bastionlaw02_UtfLong.l1]
    rw [if_neg (by rw [ns_length, hp]; simp)]
  | succ n ih =>
    intro r p k hl hk hp
    obtain ⟨k, rfl⟩ : ∃ m, k = m + 1 := ⟨k - 1, by omega⟩
    simp only [bastionlaw02_UtfLong.l1]
    cases r with
    | nil => rw [if_neg (by rw [ns_length, hp]; simp)]
    | cons c r =>
      have hle : l.length = p.length + (r.length + 1) := by rw [hp]; simp
      have hlt := c.toNat_lt
      rw [if_pos (by rw [ns_length]; omega), if_pos (by omega), if_pos (by rw [ns_length]; omega), if_pos (by rw [ns_length, B_size]), if_pos (by rw [B_size]; omega)]
      have h0 : bt (B l) p.length = (c.toNat : Int) := by rw [hp]; exact bt_end0 p r c _ rfl
      have h1 : rd (ns l) p.length = (c.toNat : Int) := by rw [hp, ns_append, ns_cons]; exact rd_end _ _ _ _ (by rw [ns_length])
      rw [h0, h1, w32 (by omega) (by omega), if_pos rfl, w64 (by omega) (by omega)]
      have := ih r (p ++ [c]) k (by simpa using hl) (by omega) (by rw [hp]; simp)
      rwa [show (((p ++ [c]).length : Nat) : Int) = (p.length : Int) + 1 by simp] at this
theorem long_l0 (l : List UInt8) (hs : l.length ≤ 1048576) (n : Nat) : ∀ (r p : List UInt8) (k : Nat) (b : Bool), r.length ≤ n → n + l.length + 5 ≤ k → l = p ++ r → (b = true ↔ ∀ c ∈ p, c.toNat < 128) →
    bastionlaw02_UtfLong.l0 k (B l) (uDec l) b p.length = some true := by
  have last : ∀ (k : Nat) (b : Bool), l.length + 2 ≤ k → (b = true ↔ ∀ c ∈ l, c.toNat < 128) → (if b = true then bastionlaw02_UtfLong.l1 k (B l) (uDec l) (uDec l) ((uDec l).length : Int) 0 else (if ((uDec l).length : Int) < ((B l).size : Int) then (some true) else ((utf_Valid.f (B l)).bind fun t243 => (some (!t243))))) = some true := by
    intro k b hk hb
    cases b with
    | true =>
      rw [if_pos rfl, uDec_plain l (hb.mp rfl)]
      exact long_l1 l (by omega) l.length l [] k (Nat.le_refl _) hk rfl
    | false =>
      rw [if_neg (by decide)]
      have hle := uDec_length _ l (Nat.le_refl _)
      by_cases h : (uDec l).length < l.length
      · rw [if_pos (by rw [B_size]; omega)]
      · rw [if_neg (by rw [B_size]; omega), utf_Valid_f l (by omega), ← valid_iff]
        cases hv : Lib.validD l with
        | false => rfl
        | true =>
          have := hb.mpr (valid_same _ l (Nat.le_refl _) hv (by omega))
          cases this
  induction n with
  | zero =>
    intro r p k b hl hk hp hb
    obtain ⟨k, rfl⟩ : ∃ m, k = m + 1 := ⟨k - 1, by omega⟩
    obtain rfl : r = [] := List.eq_nil_of_length_eq_zero (by omega)
    simp only [bastionlaw02_UtfLong.l0]
    rw [if_neg (by rw [B_size, hp]; simp)]
    exact last k b (by omega) (by rw [hb, hp]; simp)
  | succ n ih =>
    intro r p k b hl hk hp hb
    obtain ⟨k, rfl⟩ : ∃ m, k = m + 1 := ⟨k - 1, by omega⟩
    simp only [bastionlaw02_UtfLong.l0]
    cases r with
    | nil =>
      rw [if_neg (by rw [B_size, hp]; simp)]
      exact last k b (by omega) (by rw [hb, hp]; simp)
    | cons c r =>
      have hle : l.length = p.length + (r.length + 1) := by rw [hp]; simp
      have h0 : bt (B l) p.length = (c.toNat : Int) := by rw [hp]; exact bt_end0 p r c _ rfl
      rw [if_pos (by rw [B_size]; omega), w64 (by omega) (by omega), h0]
      have next : ∀ b', (b' = true ↔ ∀ d ∈ p ++ [c], d.toNat < 128) → bastionlaw02_UtfLong.l0 k (B l) (uDec l) b' ((p.length : Int) + 1) = some true := by
        intro b' hb'
        have := ih r (p ++ [c]) k b' (by simpa using hl) (by omega) (by rw [hp]; simp) hb'
        rwa [show (((p ++ [c]).length : Nat) : Int) = (p.length : Int) + 1 by simp] at this
      cases b with
      | true =>
        rw [if_pos rfl, if_pos (by omega)]
        refine next _ ?_
        have hb' := hb.mp rfl
        constructor
        · intro h d hd
          rcases List.mem_append.mp hd with hd | hd
          · exact hb' d hd
          · simp only [List.mem_singleton] at hd
            subst hd
            have := of_decide_eq_true h
            omega
        · intro h
          have := h c (by simp)
          exact decide_eq_true (by omega)
      | false =>
        rw [if_neg (by decide)]
        refine next _ ⟨fun h => (by cases h), fun h => hb.mpr fun d hd => h d (List.mem_append_left _ hd)⟩
theorem UtfLong_pure (a : ByteArray) (h : a.size ≤ 1048576) : ∃ k, bastionlaw02_UtfLong.f k a = some true := by
  obtain ⟨l, rfl⟩ := B_ex a
  rw [B_size] at h
  have hd := uDec_length l.length l (Nat.le_refl _)
  have hf := uDec_four l.length l (Nat.le_refl _)
  refine Ev.rounds (g := fun k => bastionlaw02_UtfLong.f k (B l)) ?_
  unfold bastionlaw02_UtfLong.f
  have hj : Ev (fun k => bastionlaw02_UtfLong.j0 k (B l) (uDec l) false) true := Ev.mk (2 * l.length + 10) fun k hk => by
    obtain ⟨k, rfl⟩ : ∃ m, k = m + 1 := ⟨k - 1, by omega⟩
    simp only [bastionlaw02_UtfLong.j0]
    rw [if_neg (by decide)]
    exact long_l0 l h l.length l [] k true (Nat.le_refl _) (by omega) rfl (by simp)
  have e : decide ((wrap64 (4 * ((uDec l).length : Int))) < ((B l).size : Int)) = false := decide_eq_false (by rw [w64 (by omega) (by omega), B_size]; omega)
  refine lives_ev.bind (Ev.ite_pos rfl ((Ev.const (utf_Decode_f l (by omega))).bind (Ev.ite_neg (by rw [B_size]; omega) ?_)))
  rw [e]
  by_cases h0 : l.length = 0
  · exact Ev.ite_neg (by rw [B_size]; omega) hj
  · exact Ev.ite_pos (by rw [B_size]; omega) (Ev.ite_neg (by omega) hj)
end Go.Proofs.YtiobcjgolmiabaaDoor.Q
