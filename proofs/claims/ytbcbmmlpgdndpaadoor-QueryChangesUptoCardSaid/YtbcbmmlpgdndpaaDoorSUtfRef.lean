/- What the document's functions of layer 2 answer. -/
import Derived.Test.YtbcbmmlpgdndpaaDoorSUtfE
import Derived.Test.YtbcbmmlpgdndpaaDoorSQbastionref020
namespace Go.Proofs.YtbcbmmlpgdndpaaDoor.Q
open Go.RowKit Go.Proofs.YtbcbmmlpgdndpaaDoorW.PrintWords Go.Proofs.YtbcbmmlpgdndpaaDoorW.PrintLast Go.Proofs.YtbcbmmlpgdndpaaDoorW.PrintMore Go.Proofs.YtbcbmmlpgdndpaaDoor.P1
set_option linter.unusedSimpArgs false
set_option linter.unusedVariables false
theorem rd_end (p r : List Int) (x i : Int) (h : i = (p.length : Int)) : rd (p ++ x :: r) i = x := by subst h; simp [rd]
theorem bt_end0 (p r : List UInt8) (c : UInt8) (i : Int) (h : i = (p.length : Int)) : bt (B (p ++ c :: r)) i = (c.toNat : Int) := by subst h; rw [B_bt]; simp
theorem ref_begins_tab : ∀ b : Fin 256, bastionref02_begins.f 5 (b.val : Int) = some (match leadO b.val with | some (m, v, lo, hi) => ((m : Int), (v : Int), (lo : Int), (hi : Int)) | none => (-1, 0, 0, 0)) := by decide +kernel
theorem ref_begins_f (c : UInt8) (k : Nat) (hk : 5 ≤ k) : bastionref02_begins.f k (c.toNat : Int) = some (match leadO c.toNat with | some (m, v, lo, hi) => ((m : Int), (v : Int), (lo : Int), (hi : Int)) | none => (-1, 0, 0, 0)) :=
  at_more (fun k => bastionref02_begins.mono _ k) hk (ref_begins_tab ⟨c.toNat, c.toNat_lt⟩)
theorem ref_l1 (m : Nat) : ∀ (r p : List UInt8) (x : List Int) (k v lo hi : Nat), m ≤ 3 → m + 1 ≤ k → (m = 1 → v ≤ 100000) → (m = 2 → v ≤ 1000) → (m = 3 → v ≤ 10) → 128 ≤ lo → x.length < 35184372088832 → p.length + r.length ≤ 140737488355000 →
    bastionref02_Decode.l1 k (B (p ++ r)) x p.length m v lo hi = bastionref02_Decode.l0 (k - 1 - (contV m lo hi r v).2.2) (B (p ++ r)) (x ++ [if (contV m lo hi r v).1 = 0 then ((contV m lo hi r v).2.1 : Int) else 65533]) ((p.length : Int) + ((contV m lo hi r v).2.2 : Nat)) := by
  induction m with
  | zero =>
    intro r p x k v lo hi hm hk h1 h2 h3 hlo hx hs
    obtain ⟨k, rfl⟩ : ∃ m, k = m + 1 := ⟨k - 1, by omega⟩
    simp only [bastionref02_Decode.l1, contV]
    rw [if_neg (by simp), if_pos (by simp), if_pos hx]; simp
  | succ m ih =>
    intro r p x k v lo hi hm hk h1 h2 h3 hlo hx hs
    obtain ⟨k, rfl⟩ : ∃ m, k = m + 1 := ⟨k - 1, by omega⟩
    simp only [bastionref02_Decode.l1]
    rw [if_pos (by omega)]
    cases r with
    | nil =>
      have e : contV (m + 1) lo hi [] v = (m + 1, v, 0) := by simp only [contV]
      rw [if_neg (by rw [B_size]; simp), if_neg (by omega), if_pos hx, e]
      simp
    | cons c r =>
      have hlt := c.toNat_lt
      simp only [List.length_cons] at hs
      rw [if_pos (by rw [B_size]; simp; omega), if_pos (by omega), bt_end0 p r c _ rfl]
      by_cases hc : lo ≤ c.toNat ∧ c.toNat ≤ hi
      · rw [if_pos (by omega), if_pos (by omega), w64 (by omega) (by omega), w64 (by omega) (by omega)]
        have hv : v ≤ 100000 := by
          have : m = 0 ∨ m = 1 ∨ m = 2 := by omega
          rcases this with rfl | rfl | rfl
          · exact h1 rfl
          · have := h2 rfl; omega
          · have := h3 rfl; omega
        rw [w32 (i := 64 * (v : Int)) (by omega) (by omega), w32 (by omega) (by omega)]
        have e : contV (m + 1) lo hi (c :: r) v = ((contV m 128 191 r (64 * v + (c.toNat - 128))).1, (contV m 128 191 r (64 * v + (c.toNat - 128))).2.1, (contV m 128 191 r (64 * v + (c.toNat - 128))).2.2 + 1) := by simp only [contV, if_pos hc]
        have := ih r (p ++ [c]) x k (64 * v + (c.toNat - 128)) 128 191 (by omega) (by omega) (by intro hm; have := h2 (by omega); omega) (by intro hm; have := h3 (by omega); omega) (by intro hm; omega) (by omega) hx (by simp; omega)
        rw [show (p ++ [c]) ++ r = p ++ c :: r by simp, show (((p ++ [c]).length : Nat) : Int) = (p.length : Int) + 1 by simp, show ((128 : Nat) : Int) = 128 from rfl, show ((191 : Nat) : Int) = 191 from rfl] at this
        rw [show ((m + 1 : Nat) : Int) - 1 = (m : Int) by omega, show (64 * (v : Int) + ((c.toNat : Int) - 128) % 256) = ((64 * v + (c.toNat - 128) : Nat) : Int) by omega, this, e]
        rw [show k - 1 - (contV m 128 191 r (64 * v + (c.toNat - 128))).2.2 = k + 1 - 1 - ((contV m 128 191 r (64 * v + (c.toNat - 128))).2.2 + 1) by omega, show (p.length : Int) + 1 + ((contV m 128 191 r (64 * v + (c.toNat - 128))).2.2 : Nat) = (p.length : Int) + (((contV m 128 191 r (64 * v + (c.toNat - 128))).2.2 + 1 : Nat) : Int) by omega]
      · have e : contV (m + 1) lo hi (c :: r) v = (m + 1, v, 0) := by simp only [contV, if_neg hc]
        rw [e]
        by_cases hc1 : (c.toNat : Int) ≥ lo
        · rw [if_pos hc1, if_neg (by omega), if_neg (by omega), if_pos hx]; simp
        · rw [if_neg hc1, if_neg (by omega), if_pos hx]; simp
theorem lead_v {c : Nat} (h : c < 256) {m v lo hi : Nat} (hl : leadO c = some (m, v, lo, hi)) : 1 ≤ m ∧ m ≤ 3 ∧ 128 ≤ lo ∧ (m = 1 → v ≤ 100000) ∧ (m = 2 → v ≤ 1000) ∧ (m = 3 → v ≤ 10) := by
  unfold leadO at hl
  repeat' split at hl
  all_goals first | (simp only [reduceCtorEq] at hl; done) | (simp only [Option.some.injEq, Prod.mk.injEq] at hl; omega)
theorem ref_Decode_l0 (n : Nat) : ∀ (r p : List UInt8) (x : List Int) (k : Nat), r.length ≤ n → 6 * n + 9 ≤ k → x.length + r.length ≤ 35184372088831 → p.length + r.length ≤ 140737488355000 →
    bastionref02_Decode.l0 k (B (p ++ r)) x p.length = some (x ++ uDec r) := by
  induction n with
  | zero =>
    intro r p x k hl hk hx hs
    obtain ⟨k, rfl⟩ : ∃ m, k = m + 1 := ⟨k - 1, by omega⟩
    obtain rfl : r = [] := List.eq_nil_of_length_eq_zero (by omega)
    simp only [bastionref02_Decode.l0]
    rw [if_neg (by rw [B_size]; simp), uDec_nil]; simp
  | succ n ih =>
    intro r p x k hl hk hx hs
    obtain ⟨k, rfl⟩ : ∃ m, k = m + 1 := ⟨k - 1, by omega⟩
    simp only [bastionref02_Decode.l0]
    cases r with
    | nil => rw [if_neg (by rw [B_size]; simp), uDec_nil]; simp
    | cons c r =>
      have hlt := c.toNat_lt
      have hb := stepR_bounds c r
      simp only [List.length_cons] at hl hx hs
      rw [if_pos (by rw [B_size]; simp; omega), if_pos (by omega), bt_end0 p r c _ rfl, uDec_R]
      by_cases h0 : c.toNat < 128
      · rw [if_pos (by omega), if_pos (by omega), w32 (by omega) (by omega), w64 (by omega) (by omega), step1 r h0]
        have := ih r (p ++ [c]) (x ++ [(c.toNat : Int)]) k (by omega) (by omega) (by simp; omega) (by simp; omega)
        rw [show (p ++ [c]) ++ r = p ++ c :: r by simp, show (((p ++ [c]).length : Nat) : Int) = (p.length : Int) + 1 by simp] at this
        rw [this]; simp
      · rw [if_neg (by omega), ref_begins_f c k (by omega)]
        simp only [Option.bind_some]
        rw [w64 (by omega) (by omega)]
        cases hl0 : leadO c.toNat with
        | none =>
          simp only
          have hsr : stepR (c :: r) = (65533, 1) := by simp only [stepR, hl0]; rw [if_neg h0]
          obtain ⟨k, rfl⟩ : ∃ m, k = m + 1 := ⟨k - 1, by omega⟩
          simp only [bastionref02_Decode.l1]
          rw [if_neg (by omega), if_neg (by omega), if_pos (by omega), hsr]
          have := ih r (p ++ [c]) (x ++ [65533]) k (by omega) (by omega) (by simp; omega) (by simp; omega)
          rw [show (p ++ [c]) ++ r = p ++ c :: r by simp, show (((p ++ [c]).length : Nat) : Int) = (p.length : Int) + 1 by simp] at this
          rw [this]; simp
        | some q =>
          obtain ⟨m, v, lo, hi⟩ := q
          simp only
          obtain ⟨hm1, hm3, hlo, v1, v2, v3⟩ := lead_v hlt hl0
          have hsr := stepR_lead (r := r) (by omega) hl0
          have hcv := contV_conts m lo hi r v
          rw [hsr] at hb ⊢
          simp only at hb ⊢
          have hl1 := ref_l1 m r (p ++ [c]) x k v lo hi hm3 (by omega) v1 v2 v3 hlo (by omega) (by simp; omega)
          rw [show (p ++ [c]) ++ r = p ++ c :: r by simp, show (((p ++ [c]).length : Nat) : Int) = (p.length : Int) + 1 by simp] at hl1
          rw [hl1]
          have hd : c :: r = (c :: r.take (contV m lo hi r v).2.2) ++ r.drop (contV m lo hi r v).2.2 := by simp
          have := ih (r.drop (contV m lo hi r v).2.2) (p ++ (c :: r.take (contV m lo hi r v).2.2)) (x ++ [if (contV m lo hi r v).1 = 0 then ((contV m lo hi r v).2.1 : Int) else 65533]) (k - 1 - (contV m lo hi r v).2.2) (by simp; omega) (by omega) (by simp; omega) (by simp; omega)
          rw [List.append_assoc, ← hd] at this
          rw [show (((p ++ (c :: r.take (contV m lo hi r v).2.2)).length : Nat) : Int) = (p.length : Int) + 1 + ((contV m lo hi r v).2.2 : Nat) by simp; omega] at this
          rw [this, Nat.add_comm 1, List.drop_succ_cons]
          simp only [List.append_assoc, List.cons_append, List.nil_append]
          congr 3
          split <;> rfl
theorem ref_Decode_ev (l : List UInt8) (h : l.length ≤ 35184372088831) : Ev (fun k => bastionref02_Decode.f k (B l)) (uDec l) := Ev.mk (6 * l.length + 9) fun k hk => by
  unfold bastionref02_Decode.f
  have := ref_Decode_l0 l.length l [] [] k (Nat.le_refl _) hk (by simp; omega) (by simp; omega)
  simpa using this
end Go.Proofs.YtbcbmmlpgdndpaaDoor.Q
