/- UTF-8, plain: runes there and back; which texts are good. -/
import Derived.Test.YtbcbmmlpgdndpaaDoorSUtfL
namespace Go.Proofs.YtbcbmmlpgdndpaaDoor.Q
open Go.RowKit Go.Proofs.YtbcbmmlpgdndpaaDoorW.PrintWords Go.Proofs.YtbcbmmlpgdndpaaDoorW.PrintLast Go.Proofs.YtbcbmmlpgdndpaaDoorW.PrintMore Go.Proofs.YtbcbmmlpgdndpaaDoor.P1
set_option linter.unusedSimpArgs false
set_option linter.unusedVariables false
def mayR (r : Int) : Prop := (0 ≤ r ∧ r < 55296) ∨ (57343 < r ∧ r ≤ 1114111)
instance (r : Int) : Decidable (mayR r) := inferInstanceAs (Decidable (_ ∨ _))
theorem enc_one {r : Int} (h0 : 0 ≤ r) (h1 : r ≤ 127) : Lib.encodeRune r = [r.toNat.toUInt8] := by unfold Lib.encodeRune; rw [Lib.encodeRuneZ_one h0 h1]; rfl
theorem enc_two {r : Int} (h0 : 128 ≤ r) (h1 : r ≤ 2047) : Lib.encodeRune r = [(192 + r / 64).toNat.toUInt8, (128 + r % 64).toNat.toUInt8] := by unfold Lib.encodeRune; rw [Lib.encodeRuneZ_two h0 h1]; rfl
theorem enc_three {r : Int} (h : (2048 ≤ r ∧ r < 55296) ∨ (57343 < r ∧ r ≤ 65535)) : Lib.encodeRune r = [(224 + r / 4096).toNat.toUInt8, (128 + r / 64 % 64).toNat.toUInt8, (128 + r % 64).toNat.toUInt8] := by unfold Lib.encodeRune; rw [Lib.encodeRuneZ_three h]; rfl
theorem enc_four {r : Int} (h0 : 65536 ≤ r) (h1 : r ≤ 1114111) : Lib.encodeRune r = [(240 + r / 262144).toNat.toUInt8, (128 + r / 4096 % 64).toNat.toUInt8, (128 + r / 64 % 64).toNat.toUInt8, (128 + r % 64).toNat.toUInt8] := by unfold Lib.encodeRune; rw [Lib.encodeRuneZ_four h0 h1]; rfl
theorem encR_bad {r : Int} (h : ¬ mayR r) : Lib.encodeRune r = [239, 191, 189] := by unfold Lib.encodeRune; rw [Lib.encodeRuneZ_bad (by unfold mayR at h; omega)]; rfl
theorem stepR_lead {c : UInt8} {r : List UInt8} {m v lo hi : Nat} (hc : 128 ≤ c.toNat) (hl : leadO c.toNat = some (m, v, lo, hi)) : stepR (c :: r) = ((if (contV m lo hi r v).1 = 0 then (contV m lo hi r v).2.1 else 65533), 1 + (contV m lo hi r v).2.2) := by
  simp only [stepR, hl]
  rw [if_neg (by omega)]
theorem step1 {c : UInt8} (s : List UInt8) (h : c.toNat < 128) : stepR (c :: s) = (c.toNat, 1) := by simp only [stepR]; rw [if_pos h]
theorem step2 {c b1 : UInt8} (s : List UInt8) (hc : 194 ≤ c.toNat ∧ c.toNat ≤ 223) (h1 : 128 ≤ b1.toNat ∧ b1.toNat ≤ 191) : stepR (c :: b1 :: s) = (64 * (c.toNat - 192) + (b1.toNat - 128), 2) := by
  rw [stepR_lead (m := 1) (v := c.toNat - 192) (lo := 128) (hi := 191) (by omega) (by unfold leadO; rw [if_pos hc])]
  have e : contV 1 128 191 (b1 :: s) (c.toNat - 192) = (0, 64 * (c.toNat - 192) + (b1.toNat - 128), 1) := by simp only [contV, if_pos h1]
  rw [e, if_pos rfl]; rfl
theorem step3 {c b1 b2 : UInt8} {lo hi : Nat} (s : List UInt8) (hl : leadO c.toNat = some (2, c.toNat - 224, lo, hi)) (hc : 128 ≤ c.toNat) (h1 : lo ≤ b1.toNat ∧ b1.toNat ≤ hi) (h2 : 128 ≤ b2.toNat ∧ b2.toNat ≤ 191) :
    stepR (c :: b1 :: b2 :: s) = (64 * (64 * (c.toNat - 224) + (b1.toNat - 128)) + (b2.toNat - 128), 3) := by
  rw [stepR_lead hc hl]
  have e : contV 2 lo hi (b1 :: b2 :: s) (c.toNat - 224) = (0, 64 * (64 * (c.toNat - 224) + (b1.toNat - 128)) + (b2.toNat - 128), 2) := by simp only [contV, if_pos h1, if_pos h2]
  rw [e, if_pos rfl]; rfl
theorem step4 {c b1 b2 b3 : UInt8} {lo hi : Nat} (s : List UInt8) (hl : leadO c.toNat = some (3, c.toNat - 240, lo, hi)) (hc : 128 ≤ c.toNat) (h1 : lo ≤ b1.toNat ∧ b1.toNat ≤ hi) (h2 : 128 ≤ b2.toNat ∧ b2.toNat ≤ 191) (h3 : 128 ≤ b3.toNat ∧ b3.toNat ≤ 191) :
    stepR (c :: b1 :: b2 :: b3 :: s) = (64 * (64 * (64 * (c.toNat - 240) + (b1.toNat - 128)) + (b2.toNat - 128)) + (b3.toNat - 128), 4) := by
  rw [stepR_lead hc hl]
  have e : contV 3 lo hi (b1 :: b2 :: b3 :: s) (c.toNat - 240) = (0, 64 * (64 * (64 * (c.toNat - 240) + (b1.toNat - 128)) + (b2.toNat - 128)) + (b3.toNat - 128), 3) := by simp only [contV, if_pos h1, if_pos h2, if_pos h3]
  rw [e, if_pos rfl]; rfl
theorem lead3 (c : Nat) (h : 224 ≤ c ∧ c ≤ 239) : ∃ lo hi, leadO c = some (2, c - 224, lo, hi) ∧ 128 ≤ lo ∧ hi ≤ 191 ∧ (lo = if c = 224 then 160 else 128) ∧ (hi = if c = 237 then 159 else 191) := by
  unfold leadO
  rw [if_neg (by omega)]
  by_cases h1 : c = 224
  · rw [if_pos h1]; exact ⟨_, _, rfl, by omega, by omega, by simp [h1], by rw [if_neg (by omega)]⟩
  · rw [if_neg h1]
    by_cases h2 : c = 237
    · rw [if_pos h2]; exact ⟨_, _, rfl, by omega, by omega, by simp [h1], by simp [h2]⟩
    · rw [if_neg h2, if_pos (by omega)]; exact ⟨_, _, rfl, by omega, by omega, by simp [h1], by simp [h2]⟩
theorem lead4 (c : Nat) (h : 240 ≤ c ∧ c ≤ 244) : ∃ lo hi, leadO c = some (3, c - 240, lo, hi) ∧ 128 ≤ lo ∧ hi ≤ 191 ∧ (lo = if c = 240 then 144 else 128) ∧ (hi = if c = 244 then 143 else 191) := by
  unfold leadO
  rw [if_neg (by omega), if_neg (by omega), if_neg (by omega), if_neg (by omega)]
  by_cases h1 : c = 240
  · rw [if_pos h1]; exact ⟨_, _, rfl, by omega, by omega, by simp [h1], by rw [if_neg (by omega)]⟩
  · rw [if_neg h1]
    by_cases h2 : c = 244
    · rw [if_pos h2]; exact ⟨_, _, rfl, by omega, by omega, by simp [h1], by simp [h2]⟩
    · rw [if_neg h2, if_pos (by omega)]; exact ⟨_, _, rfl, by omega, by omega, by simp [h1], by simp [h2]⟩
theorem encRunes_cons (r : Int) (l : List Int) : encRunes (r :: l) = Lib.encodeRune r ++ encRunes l := by simp [encRunes]
/-- is the step a good one -/
def goodS : List UInt8 → Bool
  | [] => true
  | c :: r => if c.toNat < 128 then true else match leadO c.toNat with
    | none => false
    | some (m, v, lo, hi) => (contV m lo hi r v).1 == 0
theorem lead_class {c : UInt8} {r : List UInt8} {m v lo hi : Nat} (hl : leadO c.toNat = some (m, v, lo, hi)) : 194 ≤ c.toNat ∧ 1 ≤ m ∧
    Lib.decodeGo (B (c :: r)) = if (contV m lo hi r v).1 = 0 then ((contV m lo hi r v).2.1, m + 1) else (65533, 1) := by
  have hlt := c.toNat_lt
  have hb : ∀ i, (r.getD i 0).toNat < 256 := fun i => (r.getD i 0).toNat_lt
  have g := decodeGo_L c r
  unfold leadO at hl
  split at hl
  · rename_i h; simp only [Option.some.injEq, Prod.mk.injEq] at hl; obtain ⟨rfl, rfl, rfl, rfl⟩ := hl; exact ⟨h.1, by omega, by rw [g, ← Lib.slow_C2 _ _ _ _ _ (by omega) (hb 0) (hb 1) (hb 2) (by omega), slow_cont1 c r (by omega)]⟩
  split at hl
  · rename_i h; simp only [Option.some.injEq, Prod.mk.injEq] at hl; obtain ⟨rfl, rfl, rfl, rfl⟩ := hl; exact ⟨by omega, by omega, by rw [g, ← Lib.slow_E0 _ _ _ _ _ (by omega) (hb 0) (hb 1) (hb 2) h, slow_cont2 c r 160 191 (by omega) (by omega) (by omega)]⟩
  split at hl
  · rename_i h; simp only [Option.some.injEq, Prod.mk.injEq] at hl; obtain ⟨rfl, rfl, rfl, rfl⟩ := hl; exact ⟨by omega, by omega, by rw [g, ← Lib.slow_ED _ _ _ _ _ (by omega) (hb 0) (hb 1) (hb 2) h, slow_cont2 c r 128 159 (by omega) (by omega) (by omega)]⟩
  split at hl
  · rename_i h; simp only [Option.some.injEq, Prod.mk.injEq] at hl; obtain ⟨rfl, rfl, rfl, rfl⟩ := hl; exact ⟨by omega, by omega, by rw [g, ← Lib.slow_E1 _ _ _ _ _ (by omega) (hb 0) (hb 1) (hb 2) (by omega), slow_cont2 c r 128 191 (by omega) (by omega) (by omega)]⟩
  split at hl
  · rename_i h; simp only [Option.some.injEq, Prod.mk.injEq] at hl; obtain ⟨rfl, rfl, rfl, rfl⟩ := hl; exact ⟨by omega, by omega, by rw [g, ← Lib.slow_F0 _ _ _ _ _ (by omega) (hb 0) (hb 1) (hb 2) h, slow_cont3 c r 144 191 (by omega) (by omega) (by omega)]⟩
  split at hl
  · rename_i h; simp only [Option.some.injEq, Prod.mk.injEq] at hl; obtain ⟨rfl, rfl, rfl, rfl⟩ := hl; exact ⟨by omega, by omega, by rw [g, ← Lib.slow_F4 _ _ _ _ _ (by omega) (hb 0) (hb 1) (hb 2) h, slow_cont3 c r 128 143 (by omega) (by omega) (by omega)]⟩
  split at hl
  · rename_i h; simp only [Option.some.injEq, Prod.mk.injEq] at hl; obtain ⟨rfl, rfl, rfl, rfl⟩ := hl; exact ⟨by omega, by omega, by rw [g, ← Lib.slow_F1 _ _ _ _ _ (by omega) (hb 0) (hb 1) (hb 2) (by omega), slow_cont3 c r 128 191 (by omega) (by omega) (by omega)]⟩
  · cases hl
theorem lead_none {c : Nat} (h : leadO c = none) : c < 194 ∨ 245 ≤ c := by
  unfold leadO at h
  repeat' split at h
  all_goals first | (cases h; done) | omega
theorem good_ascii {c : UInt8} (r : List UInt8) (h : c.toNat < 128) : goodS (c :: r) = true := by simp only [goodS]; rw [if_pos h]
theorem good_none {c : UInt8} (r : List UInt8) (h : ¬ c.toNat < 128) (hl : leadO c.toNat = none) : goodS (c :: r) = false := by simp only [goodS]; rw [if_neg h, hl]
theorem good_lead {c : UInt8} (r : List UInt8) {m v lo hi : Nat} (h : ¬ c.toNat < 128) (hl : leadO c.toNat = some (m, v, lo, hi)) : goodS (c :: r) = ((contV m lo hi r v).1 == 0) := by simp only [goodS]; rw [if_neg h, hl]
theorem decodeGo_good (c : UInt8) (r : List UInt8) : Lib.decodeGo (B (c :: r)) = if goodS (c :: r) = true then stepR (c :: r) else (65533, 1) := by
  by_cases h0 : c.toNat < 128
  · rw [good_ascii r h0, if_pos rfl, step1 r h0, decodeGo_L]
    unfold Lib.decodeN
    rw [if_pos h0]
  · cases hl : leadO c.toNat with
    | none =>
      have := lead_none hl
      have hlt := c.toNat_lt
      rw [good_none r h0 hl, if_neg (by decide), decodeGo_L, Lib.decodeN_bad _ _ _ _ _ (by omega)]
    | some q =>
      obtain ⟨m, v, lo, hi⟩ := q
      obtain ⟨_, hm, hd⟩ := lead_class (r := r) hl
      have hcv := contV_conts m lo hi r v
      rw [hd, stepR_lead (by omega) hl, good_lead r h0 hl]
      by_cases h : (contV m lo hi r v).1 = 0
      · rw [if_pos h, if_pos (by simp [h]), if_pos h]
        exact Prod.ext rfl (by simp only; omega)
      · rw [if_neg h, if_neg (by simp [h])]
theorem good_enc (c : UInt8) (r : List UInt8) (hg : goodS (c :: r) = true) : Lib.encodeRune (((stepR (c :: r)).1 : Nat) : Int) = (c :: r).take (stepR (c :: r)).2 ∧ ((stepR (c :: r)).2 = 1 → c.toNat < 128) := by
  have hlt := c.toNat_lt
  have bye : ∀ (x : Int) (b : UInt8), 0 ≤ x → x.toNat = b.toNat → x.toNat.toUInt8 = b := fun x b h0 h => by
    apply UInt8.toNat_inj.mp
    rw [u8_of _ (by have := b.toNat_lt; omega), h]
  by_cases h0 : c.toNat < 128
  · rw [step1 r h0, enc_one (by simp only; omega) (by simp only; omega)]
    exact ⟨by simp, fun _ => h0⟩
  · cases hl : leadO c.toNat with
    | none => rw [good_none r h0 hl] at hg; cases hg
    | some q =>
      obtain ⟨m, v, lo, hi⟩ := q
      rw [good_lead r h0 hl] at hg
      have hg : (contV m lo hi r v).1 = 0 := by simpa using hg
      have hcv := contV_conts m lo hi r v
      obtain ⟨hc, hm, _⟩ := lead_class (r := r) hl
      by_cases h1 : c.toNat ≤ 223
      · have hl' := hl
        unfold leadO at hl'
        rw [if_pos (by omega)] at hl'
        simp only [Option.some.injEq, Prod.mk.injEq] at hl'
        obtain ⟨rfl, rfl, rfl, rfl⟩ := hl'
        rcases r with _ | ⟨b1, r⟩
        · simp [contV] at hg
        · have hb : 128 ≤ b1.toNat ∧ b1.toNat ≤ 191 := by
            simp only [contV] at hg
            by_cases h : 128 ≤ b1.toNat ∧ b1.toNat ≤ 191
            · exact h
            · rw [if_neg h] at hg; simp at hg
          rw [step2 r (by omega) hb]
          refine ⟨?_, fun h => by simp at h⟩
          rw [enc_two (by simp only; omega) (by simp only; omega), bye _ c (by simp only; omega) (by simp only; omega), bye _ b1 (by simp only; omega) (by simp only; omega)]
          rfl
      by_cases h2 : c.toNat ≤ 239
      · obtain ⟨lo', hi', hl', hlo, hhi, e1, e2⟩ := lead3 c.toNat (by omega)
        have hl2 := hl.symm.trans hl'
        simp only [Option.some.injEq, Prod.mk.injEq] at hl2
        obtain ⟨g1, g2, g3, g4⟩ := hl2
        subst g3; subst g4
        rw [g1, g2] at hg hl hcv
        rcases r with _ | ⟨b1, _ | ⟨b2, r⟩⟩
        · have := conts_le 2 lo hi []; simp at this; omega
        · have := conts_le 2 lo hi [b1]; simp at this; omega
        · have hb : lo ≤ b1.toNat ∧ b1.toNat ≤ hi := by
            by_cases h : lo ≤ b1.toNat ∧ b1.toNat ≤ hi
            · exact h
            · simp only [contV] at hg; rw [if_neg h] at hg; simp at hg
          have hb2 : 128 ≤ b2.toNat ∧ b2.toNat ≤ 191 := by
            by_cases h : 128 ≤ b2.toNat ∧ b2.toNat ≤ 191
            · exact h
            · simp only [contV, if_pos hb, if_neg h] at hg; simp at hg
          rw [step3 r hl (by omega) hb hb2]
          refine ⟨?_, fun h => by simp at h⟩
          have hh := b1.toNat_lt
          have hv : (2048 ≤ 64 * (64 * (c.toNat - 224) + (b1.toNat - 128)) + (b2.toNat - 128) ∧ 64 * (64 * (c.toNat - 224) + (b1.toNat - 128)) + (b2.toNat - 128) < 55296) ∨ (57343 < 64 * (64 * (c.toNat - 224) + (b1.toNat - 128)) + (b2.toNat - 128) ∧ 64 * (64 * (c.toNat - 224) + (b1.toNat - 128)) + (b2.toNat - 128) ≤ 65535) := by split at e1 <;> split at e2 <;> omega
          rw [enc_three (by simp only; omega), bye _ c (by simp only; omega) (by simp only; omega), bye _ b1 (by simp only; omega) (by simp only; omega), bye _ b2 (by simp only; omega) (by simp only; omega)]
          rfl
      · have h244 : c.toNat ≤ 244 := by
          apply Classical.byContradiction
          intro h
          unfold leadO at hl
          rw [if_neg (by omega), if_neg (by omega), if_neg (by omega), if_neg (by omega), if_neg (by omega), if_neg (by omega), if_neg (by omega)] at hl
          cases hl
        obtain ⟨lo', hi', hl', hlo, hhi, e1, e2⟩ := lead4 c.toNat (by omega)
        have hl2 := hl.symm.trans hl'
        simp only [Option.some.injEq, Prod.mk.injEq] at hl2
        obtain ⟨g1, g2, g3, g4⟩ := hl2
        subst g3; subst g4
        rw [g1, g2] at hg hl hcv
        rcases r with _ | ⟨b1, _ | ⟨b2, _ | ⟨b3, r⟩⟩⟩
        · have := conts_le 3 lo hi []; simp at this; omega
        · have := conts_le 3 lo hi [b1]; simp at this; omega
        · have := conts_le 3 lo hi [b1, b2]; simp at this; omega
        · have hb : lo ≤ b1.toNat ∧ b1.toNat ≤ hi := by
            by_cases h : lo ≤ b1.toNat ∧ b1.toNat ≤ hi
            · exact h
            · simp only [contV] at hg; rw [if_neg h] at hg; simp at hg
          have hb2 : 128 ≤ b2.toNat ∧ b2.toNat ≤ 191 := by
            by_cases h : 128 ≤ b2.toNat ∧ b2.toNat ≤ 191
            · exact h
            · simp only [contV, if_pos hb, if_neg h] at hg; simp at hg
          have hb3 : 128 ≤ b3.toNat ∧ b3.toNat ≤ 191 := by
            by_cases h : 128 ≤ b3.toNat ∧ b3.toNat ≤ 191
            · exact h
            · simp only [contV, if_pos hb, if_pos hb2, if_neg h] at hg; simp at hg
          rw [step4 r hl (by omega) hb hb2 hb3]
          refine ⟨?_, fun h => by simp at h⟩
          have hh := b1.toNat_lt
          have hv : 65536 ≤ 64 * (64 * (64 * (c.toNat - 240) + (b1.toNat - 128)) + (b2.toNat - 128)) + (b3.toNat - 128) ∧ 64 * (64 * (64 * (c.toNat - 240) + (b1.toNat - 128)) + (b2.toNat - 128)) + (b3.toNat - 128) ≤ 1114111 := by split at e1 <;> split at e2 <;> omega
          rw [enc_four (by simp only; omega) (by simp only; omega), bye _ c (by simp only; omega) (by simp only; omega), bye _ b1 (by simp only; omega) (by simp only; omega), bye _ b2 (by simp only; omega) (by simp only; omega), bye _ b3 (by simp only; omega) (by simp only; omega)]
          rfl
theorem bad_1 (c : UInt8) (r : List UInt8) (hg : goodS (c :: r) = false) : (stepR (c :: r)).1 = 65533 := by
  by_cases h0 : c.toNat < 128
  · rw [good_ascii r h0] at hg; cases hg
  · cases hl : leadO c.toNat with
    | none => simp only [stepR, hl]; rw [if_neg h0]
    | some q =>
      obtain ⟨m, v, lo, hi⟩ := q
      rw [good_lead r h0 hl] at hg
      rw [stepR_lead (by omega) hl, if_neg (by simpa using hg)]
theorem stepR_bounds (c : UInt8) (r : List UInt8) : 1 ≤ (stepR (c :: r)).2 ∧ (stepR (c :: r)).2 ≤ r.length + 1 ∧ (stepR (c :: r)).2 ≤ 4 := by
  have h := stepU_bounds (c :: r) (by simp)
  rw [stepU_R] at h
  refine ⟨h.1, by simpa using h.2, ?_⟩
  by_cases h0 : c.toNat < 128
  · rw [step1 r h0]; omega
  · cases hl : leadO c.toNat with
    | none => simp only [stepR, hl]; rw [if_neg h0]; simp
    | some q =>
      obtain ⟨m, v, lo, hi⟩ := q
      have hcv := contV_conts m lo hi r v
      rw [stepR_lead (by omega) hl]
      have : m ≤ 3 := by unfold leadO at hl; repeat' split at hl
                         all_goals first | (simp only [reduceCtorEq] at hl; done) | (simp only [Option.some.injEq, Prod.mk.injEq] at hl; omega)
      simp only; omega
theorem validD_R (c : UInt8) (r : List UInt8) : Lib.validD (c :: r) = if goodS (c :: r) = true then Lib.validD ((c :: r).drop (stepR (c :: r)).2) else false := by
  have hd : Lib.decodeL (c :: r) = Lib.decodeGo (B (c :: r)) := by unfold Lib.decodeGo; rw [if_neg (by rw [B_size]; simp)]; rfl
  rw [Lib.validD_step _ (by simp), hd, decodeGo_good]
  cases hg : goodS (c :: r) with
  | true =>
    simp only [if_pos]
    rw [if_neg]
    intro ⟨h1, h2⟩
    obtain ⟨_, h⟩ := good_enc c r hg
    have := h h2
    rw [step1 r this] at h1
    simp only at h1; omega
  | false => rfl
theorem valid_enc (n : Nat) : ∀ l : List UInt8, l.length ≤ n → (Lib.validD l = true ↔ encRunes (uDec l) = l) := by
  induction n with
  | zero => intro l h; rw [List.eq_nil_of_length_eq_zero (by omega : l.length = 0)]; simp [uDec_nil, encRunes, Lib.validD_nil]
  | succ n ih =>
    intro l h
    cases l with
    | nil => simp [uDec_nil, encRunes, Lib.validD_nil]
    | cons c r =>
      have hb := stepR_bounds c r
      have ih := ih ((c :: r).drop (stepR (c :: r)).2) (by simp at h ⊢; omega)
      rw [validD_R, uDec_R, encRunes_cons]
      cases hg : goodS (c :: r) with
      | true =>
        rw [if_pos rfl, ih, (good_enc c r hg).1]
        constructor
        · intro h; rw [h, List.take_append_drop]
        · intro h
          have h' := h.trans (List.take_append_drop (stepR (c :: r)).2 (c :: r)).symm
          exact List.append_cancel_left h'
      | false =>
        rw [if_neg (by decide)]
        refine ⟨fun h => (by cases h), fun h => ?_⟩
        exfalso
        rw [bad_1 c r hg, show Lib.encodeRune (((65533 : Nat) : Int)) = [239, 191, 189] by decide +kernel] at h
        obtain ⟨rfl, hr⟩ := List.cons.inj h
        rw [← hr] at hg
        simp [goodS, leadO, contV] at hg
theorem valid_iff (l : List UInt8) : Lib.validD l = (encRunes (uDec l) == l) := by
  have := valid_enc l.length l (Nat.le_refl _)
  rw [Bool.eq_iff_iff, this]; simp
theorem uDec_may (n : Nat) : ∀ l : List UInt8, l.length ≤ n → ∀ x ∈ uDec l, mayR x := by
  induction n with
  | zero => intro l h; rw [List.eq_nil_of_length_eq_zero (by omega : l.length = 0)]; simp [uDec_nil]
  | succ n ih =>
    intro l h
    cases l with
    | nil => simp [uDec_nil]
    | cons c r =>
      have hb := stepR_bounds c r
      have ih := ih ((c :: r).drop (stepR (c :: r)).2) (by simp at h ⊢; omega)
      intro x hx
      rw [uDec_R] at hx
      rcases List.mem_cons.mp hx with rfl | hx
      · cases hg : goodS (c :: r) with
        | false => rw [bad_1 c r hg]; unfold mayR; omega
        | true =>
          obtain ⟨h1, h2⟩ := good_enc c r hg
          apply Classical.byContradiction
          intro hm
          have e := encR_bad hm
          rw [h1] at e
          have hl := congrArg List.length e
          rw [List.length_take] at hl
          simp only [List.length_cons, List.length_nil] at hl
          obtain ⟨rfl, hr⟩ : c = 239 ∧ ∃ t, r = 191 :: 189 :: t := by
            rcases r with _ | ⟨b1, _ | ⟨b2, r⟩⟩
            · simp only [List.length_nil] at hl; omega
            · simp only [List.length_cons, List.length_nil] at hl; omega
            · have h3 : (stepR (c :: b1 :: b2 :: r)).2 = 3 := by simp only [List.length_cons] at hl hb; omega
              rw [h3] at e
              simp at e
              exact ⟨e.1, r, by rw [e.2.1, e.2.2]⟩
          obtain ⟨t, rfl⟩ := hr
          apply hm
          rw [show stepR (239 :: 191 :: 189 :: t) = (65533, 3) by simp [stepR, leadO, contV]]
          unfold mayR; omega
      · exact ih x hx
end Go.Proofs.YtbcbmmlpgdndpaaDoor.Q
