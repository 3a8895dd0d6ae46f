/- UTF-8, plain: the document's way of reading, step by step, is the program's; there and back. -/
import Derived.Test.YtbcbmmlpgdndpaaDoorSUtfP
import Derived.Test.YtbcbmmlpgdndpaaDoorSB2
import Derived.Lib.TrimUEq
import Derived.Lib.ValidLaws
import Derived.Lib.ValidU
namespace Go.Proofs.YtbcbmmlpgdndpaaDoor.Q
open Go.RowKit Go.Proofs.YtbcbmmlpgdndpaaDoorW.PrintWords Go.Proofs.YtbcbmmlpgdndpaaDoorW.PrintLast Go.Proofs.YtbcbmmlpgdndpaaDoorW.PrintMore Go.Proofs.YtbcbmmlpgdndpaaDoor.P1
set_option linter.unusedSimpArgs false
set_option linter.unusedVariables false
/-- the bytes that follow on: how many lack, the value, how many are taken -/
def contV : Nat → Nat → Nat → List UInt8 → Nat → Nat × Nat × Nat
  | 0, _, _, _, v => (0, v, 0)
  | k + 1, _, _, [], v => (k + 1, v, 0)
  | k + 1, lo, hi, c :: r, v => if lo ≤ c.toNat ∧ c.toNat ≤ hi then ((contV k 128 191 r (64 * v + (c.toNat - 128))).1, (contV k 128 191 r (64 * v + (c.toNat - 128))).2.1, (contV k 128 191 r (64 * v + (c.toNat - 128))).2.2 + 1) else (k + 1, v, 0)
theorem contV_conts (k : Nat) : ∀ (lo hi : Nat) (l : List UInt8) (v : Nat), (contV k lo hi l v).2.2 = conts k lo hi l ∧ (contV k lo hi l v).1 + (contV k lo hi l v).2.2 = k := by
  induction k with
  | zero => intro lo hi l v; simp [contV, conts]
  | succ k ih =>
    intro lo hi l v
    cases l with
    | nil => simp [contV, conts]
    | cons c r =>
      have := ih 128 191 r (64 * v + (c.toNat - 128))
      simp only [contV, conts]
      split
      · simp only [this.1]; omega
      · simp
/-- what a first byte beyond ASCII begins -/
def leadO (c : Nat) : Option (Nat × Nat × Nat × Nat) :=
  if 194 ≤ c ∧ c ≤ 223 then some (1, c - 192, 128, 191) else if c = 224 then some (2, c - 224, 160, 191) else if c = 237 then some (2, c - 224, 128, 159)
  else if 225 ≤ c ∧ c ≤ 239 then some (2, c - 224, 128, 191) else if c = 240 then some (3, c - 240, 144, 191) else if c = 244 then some (3, c - 240, 128, 143)
  else if 241 ≤ c ∧ c ≤ 243 then some (3, c - 240, 128, 191) else none
/-- one step of the document's reading -/
def stepR : List UInt8 → Nat × Nat
  | [] => (65533, 0)
  | c :: r => if c.toNat < 128 then (c.toNat, 1) else match leadO c.toNat with
    | none => (65533, 1)
    | some (m, v, lo, hi) => ((if (contV m lo hi r v).1 = 0 then (contV m lo hi r v).2.1 else 65533), 1 + (contV m lo hi r v).2.2)
theorem decodeGo_L (c : UInt8) (r : List UInt8) : Lib.decodeGo (B (c :: r)) = Lib.decodeN (r.length + 1) c.toNat (r.getD 0 0).toNat (r.getD 1 0).toNat (r.getD 2 0).toNat := by
  unfold Lib.decodeGo
  rw [if_neg (by rw [B_size]; simp)]
  exact (Lib.decodeL_N (c :: r)).trans (by simp)
theorem slow_cont1 (c : UInt8) (r : List UInt8) (hc : 192 ≤ c.toNat ∧ c.toNat ≤ 223) :
    Lib.slowN (r.length + 1) c.toNat (r.getD 0 0).toNat (r.getD 1 0).toNat (r.getD 2 0).toNat 2 128 191 = if (contV 1 128 191 r (c.toNat - 192)).1 = 0 then ((contV 1 128 191 r (c.toNat - 192)).2.1, 2) else (65533, 1) := by
  rcases r with _ | ⟨b1, r⟩
  · simp [Lib.slowN, contV]
  · have hb1 := b1.toNat_lt
    by_cases h : 128 ≤ b1.toNat ∧ b1.toNat ≤ 191
    · have e : contV 1 128 191 (b1 :: r) (c.toNat - 192) = (0, 64 * (c.toNat - 192) + (b1.toNat - 128), 1) := by simp only [contV, if_pos h]
      rw [e, if_pos rfl]
      simp only [Lib.slowN, List.length_cons, List.getD_cons_zero]
      rw [if_neg (by omega), if_neg (by omega), if_pos (by omega)]
      exact Prod.ext (by simp only; omega) rfl
    · have e : contV 1 128 191 (b1 :: r) (c.toNat - 192) = (1, c.toNat - 192, 0) := by simp only [contV, if_neg h]
      rw [e, if_neg (by simp)]
      simp only [Lib.slowN, List.length_cons, List.getD_cons_zero]
      rw [if_neg (by omega), if_pos (by omega)]
theorem slow_cont2 (c : UInt8) (r : List UInt8) (lo hi : Nat) (hc : 224 ≤ c.toNat ∧ c.toNat ≤ 239) (hlo : 128 ≤ lo) (hhi : hi ≤ 191) :
    Lib.slowN (r.length + 1) c.toNat (r.getD 0 0).toNat (r.getD 1 0).toNat (r.getD 2 0).toNat 3 lo hi = if (contV 2 lo hi r (c.toNat - 224)).1 = 0 then ((contV 2 lo hi r (c.toNat - 224)).2.1, 3) else (65533, 1) := by
  have short : ∀ (r : List UInt8), r.length < 2 → (contV 2 lo hi r (c.toNat - 224)).1 ≠ 0 := by
    intro r hr
    have h1 := contV_conts 2 lo hi r (c.toNat - 224)
    have h2 := conts_le 2 lo hi r
    omega
  rcases r with _ | ⟨b1, _ | ⟨b2, r⟩⟩
  · rw [if_neg (short _ (by simp))]; simp [Lib.slowN]
  · rw [if_neg (short _ (by simp))]; simp [Lib.slowN]
  · have hb1 := b1.toNat_lt
    have hb2 := b2.toNat_lt
    by_cases h : lo ≤ b1.toNat ∧ b1.toNat ≤ hi
    · by_cases h2 : 128 ≤ b2.toNat ∧ b2.toNat ≤ 191
      · have e : contV 2 lo hi (b1 :: b2 :: r) (c.toNat - 224) = (0, 64 * (64 * (c.toNat - 224) + (b1.toNat - 128)) + (b2.toNat - 128), 2) := by simp only [contV, if_pos h, if_pos h2]
        rw [e, if_pos rfl]
        simp only [Lib.slowN, List.length_cons, List.getD_cons_zero, List.getD_cons_succ]
        rw [if_neg (by omega), if_neg (by omega), if_neg (by omega), if_neg (by omega), if_pos (by omega)]
        exact Prod.ext (by simp only; omega) rfl
      · have e : contV 2 lo hi (b1 :: b2 :: r) (c.toNat - 224) = (1, 64 * (c.toNat - 224) + (b1.toNat - 128), 1) := by simp only [contV, if_pos h, if_neg h2]
        rw [e, if_neg (by simp)]
        simp only [Lib.slowN, List.length_cons, List.getD_cons_zero, List.getD_cons_succ]
        rw [if_neg (by omega), if_neg (by omega), if_neg (by omega), if_pos (by omega)]
    · have e : contV 2 lo hi (b1 :: b2 :: r) (c.toNat - 224) = (2, c.toNat - 224, 0) := by simp only [contV, if_neg h]
      rw [e, if_neg (by simp)]
      simp only [Lib.slowN, List.length_cons, List.getD_cons_zero, List.getD_cons_succ]
      rw [if_neg (by omega), if_pos (by omega)]
theorem slow_cont3 (c : UInt8) (r : List UInt8) (lo hi : Nat) (hc : 240 ≤ c.toNat ∧ c.toNat ≤ 247) (hlo : 128 ≤ lo) (hhi : hi ≤ 191) :
    Lib.slowN (r.length + 1) c.toNat (r.getD 0 0).toNat (r.getD 1 0).toNat (r.getD 2 0).toNat 4 lo hi = if (contV 3 lo hi r (c.toNat - 240)).1 = 0 then ((contV 3 lo hi r (c.toNat - 240)).2.1, 4) else (65533, 1) := by
  have short : ∀ (r : List UInt8), r.length < 3 → (contV 3 lo hi r (c.toNat - 240)).1 ≠ 0 := by
    intro r hr
    have h1 := contV_conts 3 lo hi r (c.toNat - 240)
    have h2 := conts_le 3 lo hi r
    omega
  rcases r with _ | ⟨b1, _ | ⟨b2, _ | ⟨b3, r⟩⟩⟩
  · rw [if_neg (short _ (by simp))]; simp [Lib.slowN]
  · rw [if_neg (short _ (by simp))]; simp [Lib.slowN]
  · rw [if_neg (short _ (by simp))]; simp [Lib.slowN]
  · have hb1 := b1.toNat_lt
    have hb2 := b2.toNat_lt
    have hb3 := b3.toNat_lt
    by_cases h : lo ≤ b1.toNat ∧ b1.toNat ≤ hi
    · by_cases h2 : 128 ≤ b2.toNat ∧ b2.toNat ≤ 191
      · by_cases h3 : 128 ≤ b3.toNat ∧ b3.toNat ≤ 191
        · have e : contV 3 lo hi (b1 :: b2 :: b3 :: r) (c.toNat - 240) = (0, 64 * (64 * (64 * (c.toNat - 240) + (b1.toNat - 128)) + (b2.toNat - 128)) + (b3.toNat - 128), 3) := by simp only [contV, if_pos h, if_pos h2, if_pos h3]
          rw [e, if_pos rfl]
          simp only [Lib.slowN, List.length_cons, List.getD_cons_zero, List.getD_cons_succ]
          rw [if_neg (by omega), if_neg (by omega), if_neg (by omega), if_neg (by omega), if_neg (by omega), if_neg (by omega)]
          exact Prod.ext (by simp only; omega) rfl
        · have e : contV 3 lo hi (b1 :: b2 :: b3 :: r) (c.toNat - 240) = (1, 64 * (64 * (c.toNat - 240) + (b1.toNat - 128)) + (b2.toNat - 128), 2) := by simp only [contV, if_pos h, if_pos h2, if_neg h3]
          rw [e, if_neg (by simp)]
          simp only [Lib.slowN, List.length_cons, List.getD_cons_zero, List.getD_cons_succ]
          rw [if_neg (by omega), if_neg (by omega), if_neg (by omega), if_neg (by omega), if_neg (by omega), if_pos (by omega)]
      · have e : contV 3 lo hi (b1 :: b2 :: b3 :: r) (c.toNat - 240) = (2, 64 * (c.toNat - 240) + (b1.toNat - 128), 1) := by simp only [contV, if_pos h, if_neg h2]
        rw [e, if_neg (by simp)]
        simp only [Lib.slowN, List.length_cons, List.getD_cons_zero, List.getD_cons_succ]
        rw [if_neg (by omega), if_neg (by omega), if_neg (by omega), if_pos (by omega)]
    · have e : contV 3 lo hi (b1 :: b2 :: b3 :: r) (c.toNat - 240) = (3, c.toNat - 240, 0) := by simp only [contV, if_neg h]
      rw [e, if_neg (by simp)]
      simp only [Lib.slowN, List.length_cons, List.getD_cons_zero, List.getD_cons_succ]
      rw [if_neg (by omega), if_pos (by omega)]
theorem step_of_slow {c : UInt8} {r : List UInt8} {m v lo hi : Nat} (hc : 128 ≤ c.toNat) (hm : 1 ≤ m) (hl : leadO c.toNat = some (m, v, lo, hi))
    (hd : Lib.decodeGo (B (c :: r)) = if (contV m lo hi r v).1 = 0 then ((contV m lo hi r v).2.1, m + 1) else (65533, 1))
    (hn : (m = 1 ∧ (need c.toNat).1 = 0) ∨ need c.toNat = (m, lo, hi)) : stepU (c :: r) = ((((stepR (c :: r)).1 : Nat) : Int), (stepR (c :: r)).2) := by
  have hcv := contV_conts m lo hi r v
  have hs : stepR (c :: r) = ((if (contV m lo hi r v).1 = 0 then (contV m lo hi r v).2.1 else 65533), 1 + (contV m lo hi r v).2.2) := by
    simp only [stepR, hl]
    rw [if_neg (by omega)]
  rw [hs]
  by_cases h : (contV m lo hi r v).1 = 0
  · rw [if_pos h] at hd ⊢
    unfold stepU
    rw [hd, if_neg (by intro h; have := h.2; simp at this; omega)]
    exact Prod.ext rfl (by simp only; omega)
  · rw [if_neg h] at hd ⊢
    unfold stepU
    rw [hd, if_pos ⟨rfl, rfl⟩]
    refine Prod.ext rfl ?_
    simp only [brk]
    rcases hn with ⟨rfl, hn⟩ | hn
    · rw [hn, hcv.1]
      have h0 : conts 1 lo hi r = 0 := by omega
      rw [h0]; simp [conts]
    · rw [hn, hcv.1]
theorem need_two (c : Nat) (h : c ≤ 223) : (need c).1 = 0 := by
  unfold need
  rw [if_neg (by omega), if_neg (by omega), if_neg (by omega), if_neg (by omega), if_neg (by omega), if_neg (by omega)]
theorem stepU_R (c : UInt8) (r : List UInt8) : stepU (c :: r) = ((((stepR (c :: r)).1 : Nat) : Int), (stepR (c :: r)).2) := by
  have hlt := c.toNat_lt
  have hb : ∀ i, (r.getD i 0).toNat < 256 := fun i => (r.getD i 0).toNat_lt
  have g := decodeGo_L c r
  by_cases h0 : c.toNat < 128
  · unfold stepU
    simp only [stepR]
    rw [if_pos h0, g, show Lib.decodeN (r.length + 1) c.toNat (r.getD 0 0).toNat (r.getD 1 0).toNat (r.getD 2 0).toNat = (c.toNat, 1) by unfold Lib.decodeN; rw [if_pos h0], if_neg (by simp; omega)]
  have lead0 : (leadO c.toNat = none ∧ need c.toNat = (0, 128, 191)) → ((128 ≤ c.toNat ∧ c.toNat < 194) ∨ (245 ≤ c.toNat ∧ c.toNat < 256)) → stepU (c :: r) = ((((stepR (c :: r)).1 : Nat) : Int), (stepR (c :: r)).2) := by
    intro ⟨hl, hn⟩ hr
    unfold stepU
    simp only [stepR]
    rw [if_neg h0, g, Lib.decodeN_bad _ _ _ _ _ hr, if_pos (by simp), hl]
    simp [brk, hn, conts]
  by_cases h1 : c.toNat < 194
  · exact lead0 ⟨by unfold leadO; rw [if_neg (by omega), if_neg (by omega), if_neg (by omega), if_neg (by omega), if_neg (by omega), if_neg (by omega), if_neg (by omega)], by unfold need; rw [if_neg (by omega), if_neg (by omega), if_neg (by omega), if_neg (by omega), if_neg (by omega), if_neg (by omega)]⟩ (by omega)
  by_cases h2 : c.toNat ≤ 223
  · exact step_of_slow (m := 1) (v := c.toNat - 192) (lo := 128) (hi := 191) (by omega) (by omega) (by unfold leadO; rw [if_pos (by omega)]) (by rw [g, ← Lib.slow_C2 _ _ _ _ _ (by omega) (hb 0) (hb 1) (hb 2) (by omega), slow_cont1 c r (by omega)]) (.inl ⟨rfl, need_two _ h2⟩)
  by_cases h3 : c.toNat = 224
  · exact step_of_slow (m := 2) (v := c.toNat - 224) (lo := 160) (hi := 191) (by omega) (by omega) (by unfold leadO; rw [if_neg (by omega), if_pos (by omega)]) (by rw [g, ← Lib.slow_E0 _ _ _ _ _ (by omega) (hb 0) (hb 1) (hb 2) h3, slow_cont2 c r 160 191 (by omega) (by omega) (by omega)]) (.inr (by unfold need; rw [if_pos h3]))
  by_cases h4 : c.toNat = 237
  · exact step_of_slow (m := 2) (v := c.toNat - 224) (lo := 128) (hi := 159) (by omega) (by omega) (by unfold leadO; rw [if_neg (by omega), if_neg (by omega), if_pos (by omega)]) (by rw [g, ← Lib.slow_ED _ _ _ _ _ (by omega) (hb 0) (hb 1) (hb 2) h4, slow_cont2 c r 128 159 (by omega) (by omega) (by omega)]) (.inr (by unfold need; rw [if_neg h3, if_pos h4]))
  by_cases h5 : c.toNat ≤ 239
  · exact step_of_slow (m := 2) (v := c.toNat - 224) (lo := 128) (hi := 191) (by omega) (by omega) (by unfold leadO; rw [if_neg (by omega), if_neg (by omega), if_neg (by omega), if_pos (by omega)]) (by rw [g, ← Lib.slow_E1 _ _ _ _ _ (by omega) (hb 0) (hb 1) (hb 2) (by omega), slow_cont2 c r 128 191 (by omega) (by omega) (by omega)]) (.inr (by unfold need; rw [if_neg h3, if_neg h4, if_pos (by omega)]))
  by_cases h6 : c.toNat = 240
  · exact step_of_slow (m := 3) (v := c.toNat - 240) (lo := 144) (hi := 191) (by omega) (by omega) (by unfold leadO; rw [if_neg (by omega), if_neg (by omega), if_neg (by omega), if_neg (by omega), if_pos (by omega)]) (by rw [g, ← Lib.slow_F0 _ _ _ _ _ (by omega) (hb 0) (hb 1) (hb 2) h6, slow_cont3 c r 144 191 (by omega) (by omega) (by omega)]) (.inr (by unfold need; rw [if_neg h3, if_neg h4, if_neg (by omega), if_pos h6]))
  by_cases h7 : c.toNat = 244
  · exact step_of_slow (m := 3) (v := c.toNat - 240) (lo := 128) (hi := 143) (by omega) (by omega) (by unfold leadO; rw [if_neg (by omega), if_neg (by omega), if_neg (by omega), if_neg (by omega), if_neg (by omega), if_pos (by omega)]) (by rw [g, ← Lib.slow_F4 _ _ _ _ _ (by omega) (hb 0) (hb 1) (hb 2) h7, slow_cont3 c r 128 143 (by omega) (by omega) (by omega)]) (.inr (by unfold need; rw [if_neg h3, if_neg h4, if_neg (by omega), if_neg h6, if_pos h7]))
  by_cases h8 : c.toNat ≤ 243
  · exact step_of_slow (m := 3) (v := c.toNat - 240) (lo := 128) (hi := 191) (by omega) (by omega) (by unfold leadO; rw [if_neg (by omega), if_neg (by omega), if_neg (by omega), if_neg (by omega), if_neg (by omega), if_neg (by omega), if_pos (by omega)]) (by rw [g, ← Lib.slow_F1 _ _ _ _ _ (by omega) (hb 0) (hb 1) (hb 2) (by omega), slow_cont3 c r 128 191 (by omega) (by omega) (by omega)]) (.inr (by unfold need; rw [if_neg h3, if_neg h4, if_neg (by omega), if_neg h6, if_neg h7, if_pos (by omega)]))
  exact lead0 ⟨by unfold leadO; rw [if_neg (by omega), if_neg (by omega), if_neg (by omega), if_neg (by omega), if_neg (by omega), if_neg (by omega), if_neg (by omega)], by unfold need; rw [if_neg (by omega), if_neg (by omega), if_neg (by omega), if_neg (by omega), if_neg (by omega), if_neg (by omega)]⟩ (by omega)
/-- reading, by the document's steps -/
theorem uDec_R (c : UInt8) (r : List UInt8) : uDec (c :: r) = (((stepR (c :: r)).1 : Nat) : Int) :: uDec ((c :: r).drop (stepR (c :: r)).2) := by
  rw [uDec_step, stepU_R]
end Go.Proofs.YtbcbmmlpgdndpaaDoor.Q
