/- UTF-8 read with replacement, on lists of bytes: the program's way, step by step. -/
import Derived.Test.YtbcbmmlpgdndpaaDoorSB7
import Derived.Test.YtbcbmmlpgdndpaaDoorSQutf0
import Derived.Shelf.Unicode.DecodeSlow
import Derived.Lib.Hide
namespace Go.Proofs.YtbcbmmlpgdndpaaDoor.Q
open Go.RowKit Go.Proofs.YtbcbmmlpgdndpaaDoorW.PrintWords Go.Proofs.YtbcbmmlpgdndpaaDoorW.PrintLast Go.Proofs.YtbcbmmlpgdndpaaDoorW.PrintMore Go.Proofs.YtbcbmmlpgdndpaaDoor.P1
set_option linter.unusedSimpArgs false
set_option linter.unusedVariables false
/-- how many of the next k bytes follow on, the first within lo and hi -/
def conts : Nat → Nat → Nat → List UInt8 → Nat
  | 0, _, _, _ => 0
  | _ + 1, _, _, [] => 0
  | k + 1, lo, hi, c :: r => if lo ≤ c.toNat ∧ c.toNat ≤ hi then 1 + conts k 128 191 r else 0
/-- how many bytes must follow a first one, and within what the next one is (for replacement: two-byte forms count as none) -/
def need (c : Nat) : Nat × Nat × Nat :=
  if c = 224 then (2, 160, 191) else if c = 237 then (2, 128, 159) else if 225 ≤ c ∧ c ≤ 239 then (2, 128, 191)
  else if c = 240 then (3, 144, 191) else if c = 244 then (3, 128, 143) else if 241 ≤ c ∧ c ≤ 243 then (3, 128, 191) else (0, 128, 191)
def brk : List UInt8 → Nat
  | [] => 0
  | c :: r => 1 + conts (need c.toNat).1 (need c.toNat).2.1 (need c.toNat).2.2 r
theorem conts_le (k : Nat) : ∀ (lo hi : Nat) (l : List UInt8), conts k lo hi l ≤ k ∧ conts k lo hi l ≤ l.length := by
  induction k with
  | zero => intro lo hi l; simp [conts]
  | succ k ih =>
    intro lo hi l
    cases l with
    | nil => simp [conts]
    | cons c r =>
      have := ih 128 191 r
      simp only [conts]
      split
      · simp; omega
      · simp
theorem brk_l0 (d : Nat) : ∀ (r p : List UInt8) (k lo hi m : Nat), d + 2 ≤ k → m ≤ 3 → p.length ≤ 4 → (p.length : Int) + d = (m : Int) + 1 → p.length + r.length ≤ 140737488355000 →
    utf_broken.l0 k (B (p ++ r)) lo hi m p.length = some ((p.length : Int) + (conts d lo hi r : Nat)) := by
  induction d with
  | zero =>
    intro r p k lo hi m hk hm hp hd hs
    obtain ⟨k, rfl⟩ : ∃ m, k = m + 1 := ⟨k - 1, by omega⟩
    simp only [utf_broken.l0, conts]
    rw [if_neg (by omega)]; simp
  | succ d ih =>
    intro r p k lo hi m hk hm hp hd hs
    obtain ⟨k, rfl⟩ : ∃ m, k = m + 1 := ⟨k - 1, by omega⟩
    simp only [utf_broken.l0]
    rw [if_pos (by omega)]
    cases r with
    | nil => rw [if_neg (by rw [B_size]; simp)]; simp [conts]
    | cons c r =>
      have h0 : bt (B (p ++ c :: r)) p.length = (c.toNat : Int) := by rw [B_bt]; simp
      have hs' : p.length + (r.length + 1) ≤ 140737488355000 := by simpa using hs
      rw [if_pos (by rw [B_size]; simp; omega), if_pos (by omega), h0]
      simp only [conts]
      by_cases h1 : lo ≤ c.toNat
      · rw [if_pos (by omega)]
        by_cases h2 : c.toNat ≤ hi
        · rw [if_pos (by omega), if_pos ⟨h1, h2⟩, w64 (by omega) (by omega)]
          by_cases hpl : p.length ≤ 3
          · have := ih r (p ++ [c]) k 128 191 m (by omega) hm (by simp; omega) (by simp; omega) (by simp; omega)
            rw [show (p ++ [c]) ++ r = p ++ c :: r by simp, show (((p ++ [c]).length : Nat) : Int) = (p.length : Int) + 1 by simp] at this
            rw [show ((128 : Nat) : Int) = 128 from rfl, show ((191 : Nat) : Int) = 191 from rfl] at this
            rw [this]; simp; omega
          · omega
        · rw [if_neg (by omega), if_neg (by omega)]; simp
      · rw [if_neg (by omega), if_neg (by omega)]; simp
theorem brk_f (c : UInt8) (r : List UInt8) (hs : r.length ≤ 140737488350000) : utf_broken.f 20 (B (c :: r)) = some ((brk (c :: r) : Nat) : Int) := by
  have h0 : bt (B (c :: r)) 0 = (c.toNat : Int) := by rw [B_bt]; rfl
  have key : ∀ (k m lo hi : Nat), 10 ≤ k → m ≤ 3 → need c.toNat = (m, lo, hi) → utf_broken.j2 k (B (c :: r)) lo hi m = some ((brk (c :: r) : Nat) : Int) := by
    intro k m lo hi hk hm hn
    obtain ⟨k, rfl⟩ : ∃ m, k = m + 1 := ⟨k - 1, by omega⟩
    simp only [utf_broken.j2]
    have := brk_l0 m r [c] k lo hi m (by omega) hm (by simp) (by simp; omega) (by simp; omega)
    simp only [List.length_cons, List.length_nil, Nat.zero_add, List.cons_append, List.nil_append, Int.natCast_one] at this
    rw [this]
    simp only [brk, hn]
    simp
  have hlt := c.toNat_lt
  unfold utf_broken.f
  rw [if_pos (by rw [B_size]; simp <;> omega), h0]
  by_cases h224 : (224 : Int) ≤ c.toNat
  · rw [if_pos h224]
    by_cases h239 : (c.toNat : Int) ≤ 239
    · rw [decide_eq_true h239]
      simp only [utf_broken.j0]
      rw [if_pos trivial]
      by_cases e1 : (c.toNat : Int) = 224
      · rw [if_pos e1, if_neg (by omega)]
        exact key 19 2 160 191 (by omega) (by omega) (by unfold need; rw [if_pos (by omega)])
      · rw [if_neg e1]
        by_cases e2 : (c.toNat : Int) = 237
        · rw [if_pos e2]
          exact key 19 2 128 159 (by omega) (by omega) (by unfold need; rw [if_neg (by omega), if_pos (by omega)])
        · rw [if_neg e2]
          exact key 19 2 128 191 (by omega) (by omega) (by unfold need; rw [if_neg (by omega), if_neg (by omega), if_pos (by omega)])
    · rw [decide_eq_false h239]
      simp only [utf_broken.j0]
      rw [if_neg (by decide), if_pos (by omega)]
      by_cases h244 : (c.toNat : Int) ≤ 244
      · rw [decide_eq_true h244]
        simp only [utf_broken.j1]
        rw [if_pos trivial]
        by_cases e1 : (c.toNat : Int) = 240
        · rw [if_pos e1, if_neg (by omega)]
          exact key 18 3 144 191 (by omega) (by omega) (by unfold need; rw [if_neg (by omega), if_neg (by omega), if_neg (by omega), if_pos (by omega)])
        · rw [if_neg e1]
          by_cases e2 : (c.toNat : Int) = 244
          · rw [if_pos e2]
            exact key 18 3 128 143 (by omega) (by omega) (by unfold need; rw [if_neg (by omega), if_neg (by omega), if_neg (by omega), if_neg (by omega), if_pos (by omega)])
          · rw [if_neg e2]
            exact key 18 3 128 191 (by omega) (by omega) (by unfold need; rw [if_neg (by omega), if_neg (by omega), if_neg (by omega), if_neg (by omega), if_neg (by omega), if_pos (by omega)])
      · rw [decide_eq_false h244]
        simp only [utf_broken.j1]
        rw [if_neg (by decide)]
        exact key 18 0 128 191 (by omega) (by omega) (by unfold need; rw [if_neg (by omega), if_neg (by omega), if_neg (by omega), if_neg (by omega), if_neg (by omega), if_neg (by omega)])
  · rw [if_neg h224]
    simp only [utf_broken.j0]
    rw [if_neg (by decide), if_neg (by omega)]
    simp only [utf_broken.j1]
    rw [if_neg (by decide)]
    exact key 18 0 128 191 (by omega) (by omega) (by unfold need; rw [if_neg (by omega), if_neg (by omega), if_neg (by omega), if_neg (by omega), if_neg (by omega), if_neg (by omega)])
theorem brk_bounds (c : UInt8) (r : List UInt8) : 1 ≤ brk (c :: r) ∧ brk (c :: r) ≤ (c :: r).length := by
  have := conts_le (need c.toNat).1 (need c.toNat).2.1 (need c.toNat).2.2 r
  simp only [brk, List.length_cons]; omega
/-- one step of the program's reading -/
def stepU (l : List UInt8) : Int × Nat :=
  if (Lib.decodeGo (B l)).1 = 65533 ∧ (Lib.decodeGo (B l)).2 = 1 then (65533, brk l) else (((Lib.decodeGo (B l)).1 : Int), (Lib.decodeGo (B l)).2)
def uDecN : Nat → List UInt8 → List Int
  | 0, _ => []
  | _ + 1, [] => []
  | n + 1, c :: r => (stepU (c :: r)).1 :: uDecN n ((c :: r).drop (stepU (c :: r)).2)
def uDec (l : List UInt8) : List Int := uDecN l.length l
theorem decode_bounds (l : List UInt8) (h : l ≠ []) : 1 ≤ (Lib.decodeGo (B l)).2 ∧ (Lib.decodeGo (B l)).2 ≤ l.length := by
  have hsz : (B l).size = l.length := B_size l
  have hpos : 0 < l.length := by cases l with
    | nil => exact absurd rfl h
    | cons c r => simp
  unfold Lib.decodeGo
  rw [if_neg (by omega)]
  unfold Utf8.decode
  simp only [Nat.zero_add]
  repeat' split
  all_goals simp_all
  all_goals omega
theorem stepU_bounds (l : List UInt8) (h : l ≠ []) : 1 ≤ (stepU l).2 ∧ (stepU l).2 ≤ l.length := by
  have := decode_bounds l h
  unfold stepU
  split
  · cases l with
    | nil => exact absurd rfl h
    | cons c r => exact brk_bounds c r
  · exact this
theorem uDecN_more (n : Nat) : ∀ (m : Nat) (l : List UInt8), l.length ≤ n → n ≤ m → uDecN m l = uDecN n l := by
  induction n with
  | zero =>
    intro m l hl hm
    rw [List.eq_nil_of_length_eq_zero (by omega : l.length = 0)]
    cases m <;> rfl
  | succ n ih =>
    intro m l hl hm
    obtain ⟨m, rfl⟩ : ∃ k, m = k + 1 := ⟨m - 1, by omega⟩
    cases l with
    | nil => rfl
    | cons c r =>
      have hb := stepU_bounds (c :: r) (by simp)
      simp only [uDecN]
      rw [ih m _ (by simp at hl ⊢; omega) (by omega)]
theorem uDec_nil : uDec [] = [] := rfl
theorem uDec_step (c : UInt8) (r : List UInt8) : uDec (c :: r) = (stepU (c :: r)).1 :: uDec ((c :: r).drop (stepU (c :: r)).2) := by
  have hb := stepU_bounds (c :: r) (by simp)
  unfold uDec
  simp only [List.length_cons, uDecN]
  rw [uDecN_more _ r.length _ (Nat.le_refl _) (by simp; omega)]
theorem uDec_length (n : Nat) : ∀ l : List UInt8, l.length ≤ n → (uDec l).length ≤ l.length := by
  induction n with
  | zero => intro l h; rw [List.eq_nil_of_length_eq_zero (by omega : l.length = 0)]; simp [uDec_nil]
  | succ n ih =>
    intro l h
    cases l with
    | nil => simp [uDec_nil]
    | cons c r =>
      have hb := stepU_bounds (c :: r) (by simp)
      have := ih ((c :: r).drop (stepU (c :: r)).2) (by simp at h ⊢; omega)
      rw [uDec_step, List.length_cons]
      simp at this ⊢; omega
end Go.Proofs.YtbcbmmlpgdndpaaDoor.Q
