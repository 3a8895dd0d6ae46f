/- What pct.Decode, Lower, Upper, Same and the reference's answer, on lists of bytes. -/
import Derived.Test.YtiobcjgolmiabaaStr
import Derived.Test.YtiobcjgolmiabaaEnc
import Derived.Test.YtiobcjgolmiabaaTurn
import Derived.Lib.Hide
import Derived.Test.YtiobcjgolmiabaaQpct0
import Derived.Test.YtiobcjgolmiabaaQpct1
import Derived.Test.YtiobcjgolmiabaaQbastionref010
namespace Go.Proofs.Ytiobcjgolmiabaa.Q
open Go.RowKit Go.Proofs.YtiobcjgolmiabaaW.PrintWords Go.Proofs.YtiobcjgolmiabaaW.PrintLast Go.Proofs.YtiobcjgolmiabaaW.PrintMore Go.Proofs.Ytiobcjgolmiabaa.P1
set_option linter.unusedSimpArgs false

/-- A hexadecimal digit's number, and whether it is one. -/
def digI (b : Int) : Int × Bool := if 48 ≤ b ∧ b ≤ 57 then (b - 48, true) else if 97 ≤ b ∧ b ≤ 102 then (b - 87, true) else if 65 ≤ b ∧ b ≤ 70 then (b - 55, true) else (0, false)
def dg (c : UInt8) : Option Nat := if (digI c.toNat).2 then some (digI c.toNat).1.toNat else none
theorem pct_digit_tab : ∀ b : Fin 256, pct_digit.f 5 (b.val : Int) = some (digI b.val) := by decide +kernel
theorem at_more {α : Type} {g : Nat → Option α} (hg : ∀ k, LeO (g k) (g (k + 1))) {k m : Nat} {r : α} (h : k ≤ m) (hk : g k = some r) : g m = some r := at_rounds hg h hk
theorem pct_digit_f (c : UInt8) (k : Nat) (hk : 5 ≤ k) : pct_digit.f k (c.toNat : Int) = some (digI c.toNat) :=
  at_more (fun k => pct_digit.mono _ k) hk (all_u8 (p := fun b => pct_digit.f 5 b = some (digI b)) pct_digit_tab c)
theorem digI_lt : ∀ b : Fin 256, (digI b.val).2 = true → 0 ≤ (digI b.val).1 ∧ (digI b.val).1 < 16 := by decide +kernel
theorem dg_some {c : UInt8} (h : (digI c.toNat).2 = true) : ∃ n : Nat, n < 16 ∧ digI c.toNat = ((n : Int), true) ∧ dg c = some n := by
  have := digI_lt ⟨c.toNat, c.toNat_lt⟩ h
  simp only [] at this
  refine ⟨(digI c.toNat).1.toNat, by omega, ?_, ?_⟩
  · rw [← h]; ext
    · simp only []; omega
    · rfl
  · unfold dg; rw [if_pos h]
theorem dg_none {c : UInt8} (h : (digI c.toNat).2 = false) : dg c = none := by unfold dg; rw [h]; rfl
def decL : List UInt8 → List UInt8
  | [] => []
  | [a] => [a]
  | [a, b] => [a, b]
  | c :: a :: b :: r => if c = 37 then (match dg a, dg b with | some x, some y => (16 * x + y).toUInt8 :: decL r | _, _ => c :: decL (a :: b :: r)) else c :: decL (a :: b :: r)
theorem decL_cons_ne {c : UInt8} (h : c ≠ 37) (r : List UInt8) : decL (c :: r) = c :: decL r := by
  match r with
  | [] => rfl
  | [a] => rfl
  | a :: b :: r => rw [decL, if_neg h]
theorem decL_short (c : UInt8) (r : List UInt8) (h : r.length ≤ 1) : decL (c :: r) = c :: decL r := by
  match r with
  | [] => rfl
  | [a] => rfl
  | a :: b :: r => simp at h
theorem decL_no {a b : UInt8} (c : UInt8) (r : List UInt8) (h : dg a = none ∨ dg b = none) : decL (c :: a :: b :: r) = c :: decL (a :: b :: r) := by
  rw [decL]
  split
  · rcases h with h | h
    · rw [h]
    · rw [h]; cases dg a <;> rfl
  · rfl
theorem decL_yes {a b : UInt8} {x y : Nat} (r : List UInt8) (ha : dg a = some x) (hb : dg b = some y) : decL (37 :: a :: b :: r) = (16 * x + y).toUInt8 :: decL r := by
  rw [decL, if_pos rfl, ha, hb]
theorem or_tab : ∀ x y : Fin 16, Go.bits .or .u8 (((x.val : Int) * 16) % 256) (y.val : Int) = (((16 * x.val + y.val).toUInt8).toNat : Int) := by decide +kernel
theorem decL_length (n : Nat) : ∀ l : List UInt8, l.length ≤ n → (decL l).length ≤ l.length := by
  induction n with
  | zero => intro l h; cases l with
    | nil => simp [decL]
    | cons c r => simp at h
  | succ n ih =>
    intro l h
    match l, h with
    | [], _ => simp [decL]
    | [a], _ => simp [decL]
    | [a, b], _ => simp [decL]
    | c :: a :: b :: r, h =>
      have h1 := ih (a :: b :: r) (by simp at h ⊢; omega)
      have h2 := ih r (by simp at h; omega)
      rw [decL]
      split
      · split
        · simp at h2 ⊢; omega
        · simp at h1 ⊢; omega
      · simp at h1 ⊢; omega

theorem pct_Decode_l0 (n : Nat) : ∀ (l : List UInt8) (x : List Int) (k : Nat), l.length ≤ n → 2 * n + 9 ≤ k → x.length + l.length ≤ 140737488355327 →
    pct_Decode.l0 k (B l) x = some (strOfNums (x ++ ns (decL l))) := by
  induction n with
  | zero =>
    intro l x k hl hk hx
    obtain ⟨k, rfl⟩ : ∃ m, k = m + 1 := ⟨k - 1, by omega⟩
    obtain rfl : l = [] := List.eq_nil_of_length_eq_zero (by omega)
    simp only [pct_Decode.l0]
    rw [if_pos (B_toList _)]
    simp [decL, ns]
  | succ n ih =>
    intro l x k hl hk hx
    obtain ⟨k, rfl⟩ : ∃ m, k = m + 2 := ⟨k - 2, by omega⟩
    cases l with
    | nil =>
      simp only [pct_Decode.l0]
      rw [if_pos (B_toList _)]
      simp [decL, ns]
    | cons c r =>
      have hsz : (0 : Int) < ((B (c :: r)).size : Int) := by rw [B_size, List.length_cons]; omega
      have hl' : r.length ≤ n := by simpa using hl
      have hx' : x.length + (r.length + 1) ≤ 140737488355327 := by simpa using hx
      have h0 : bt (B (c :: r)) 0 = (c.toNat : Int) := by rw [B_bt]; rfl
      have hone : ∀ k', 2 * n + 9 ≤ k' → pct_Decode.l0 k' ((B (c :: r)).extract 1 (B (c :: r)).size) (x ++ [(c.toNat : Int)]) = some (strOfNums (x ++ ns (c :: decL r))) := by
        intro k' hk'
        rw [B_extract_end, show (c :: r).drop 1 = r from rfl, ih r _ k' hl' hk' (by simp; omega)]
        simp [ns_cons]
      have hplain : pct_Decode.j1 (k + 1) (B (c :: r)) x false = some (strOfNums (x ++ ns (c :: decL r))) := by
        simp only [pct_Decode.j1]
        rw [if_neg (by decide), if_pos hsz, if_pos (by omega), if_pos (by rw [B_size]; simp; omega), h0]
        exact hone k (by omega)
      simp only [pct_Decode.l0]
      rw [if_neg (by rw [B_toList]; simp), if_pos hsz, h0]
      by_cases h37 : c = 37
      · subst h37
        rw [if_pos (by decide)]
        match r, hl', hx', hone, hplain, h0, hsz with
        | [], _, _, _, hplain, _, _ => rw [decide_eq_false (by rw [B_size]; simp), hplain, decL_short 37 [] (by simp)]
        | [a], _, _, _, hplain, _, _ => rw [decide_eq_false (by rw [B_size]; simp), hplain, decL_short 37 [a] (by simp)]
        | a :: b :: r, hl', hx', hone, hplain, h0, hsz =>
          have s3 : ((B (37 :: a :: b :: r)).size : Int) = (r.length : Int) + 3 := by rw [B_size]; simp; omega
          have h1 : bt (B (37 :: a :: b :: r)) 1 = (a.toNat : Int) := by rw [B_bt]; rfl
          have h2 : bt (B (37 :: a :: b :: r)) 2 = (b.toNat : Int) := by rw [B_bt]; rfl
          rw [decide_eq_true (by rw [s3]; omega)]
          simp only [pct_Decode.j1]
          rw [if_pos trivial, if_pos (by rw [s3]; omega), h1, pct_digit_f a k (by omega)]
          simp only [Option.bind_some]
          rw [if_pos (by rw [s3]; omega), h2, pct_digit_f b k (by omega)]
          simp only [Option.bind_some]
          by_cases ea : (digI a.toNat).2 = true
          · by_cases eb : (digI b.toNat).2 = true
            · obtain ⟨p, hp, ep, dp⟩ := dg_some ea
              obtain ⟨q, hq, eq, dq⟩ := dg_some eb
              rw [if_pos ea, if_pos eb, if_pos (by simp at hx'; omega), if_pos (by rw [s3]; omega), B_extract_end, show (37 :: a :: b :: r).drop 3 = r from rfl, ep, eq]
              simp only []
              rw [or_tab ⟨p, hp⟩ ⟨q, hq⟩, ih r _ k (by simp at hl'; omega) (by omega) (by simp at hx' ⊢; omega), decL_yes r dp dq]
              simp [ns_cons]
            · rw [if_pos ea, if_neg eb, if_pos hsz, if_pos (by omega), if_pos (by rw [s3]; omega), h0, hone k (by omega), decL_no _ _ (.inr (dg_none (Bool.eq_false_iff.mpr eb)))]
          · rw [if_neg ea, if_pos hsz, if_pos (by omega), if_pos (by rw [s3]; omega), h0, hone k (by omega), decL_no _ _ (.inl (dg_none (Bool.eq_false_iff.mpr ea)))]
      · rw [if_neg (by intro e; apply h37; exact UInt8.toNat_inj.mp (by have : (37 : UInt8).toNat = 37 := rfl; omega)), hplain, decL_cons_ne h37]
theorem pct_Decode_ev (l : List UInt8) (h : l.length ≤ 140737488355327) : Ev (fun k => pct_Decode.f k (B l)) (B (decL l)) :=
  Ev.mk (2 * l.length + 9) fun k hk => by
    unfold pct_Decode.f
    rw [pct_Decode_l0 l.length l [] k (Nat.le_refl _) hk (by simpa using h), List.nil_append, strOf_ns]
/-! ### the reference, and letters -/
theorem ref_Digit_tab : ∀ b : Fin 256, bastionref01_Digit.f 20 (b.val : Int) = some (if (digI b.val).2 then (digI b.val).1 else 16) := by decide +kernel
theorem ref_Digit_f (c : UInt8) (k : Nat) (hk : 20 ≤ k) : bastionref01_Digit.f k (c.toNat : Int) = some (if (digI c.toNat).2 then (digI c.toNat).1 else 16) :=
  at_more (fun k => bastionref01_Digit.mono _ k) hk (all_u8 (p := fun b => bastionref01_Digit.f 20 b = some (if (digI b).2 then (digI b).1 else 16)) ref_Digit_tab c)
theorem at_end (p r : List UInt8) (j : Nat) (d : UInt8) : (p ++ r).getD (p.length + j) d = r.getD j d := by
  simp [List.getD_eq_getElem?_getD, List.getElem?_append_right (Nat.le_add_right _ _)]
theorem bt_end (p r : List UInt8) (j : Nat) (i : Int) (h : i = (p.length : Int) + j) : bt (B (p ++ r)) i = ((r.getD j 0).toNat : Int) := by
  rw [B_bt, show i.toNat = p.length + j by omega, at_end]
theorem cat_tab : ∀ x y : Fin 16, ((((x.val : Int) * 16) % 256) + (y.val : Int)) % 256 = (((16 * x.val + y.val).toUInt8).toNat : Int) := by decide +kernel
theorem B_snoc_size (p r : List UInt8) (c : UInt8) : ((B (p ++ c :: r)).size : Int) = (p.length : Int) + (r.length : Int) + 1 := by rw [B_size]; simp; omega
theorem snoc_eq (p r : List UInt8) (c : UInt8) : p ++ c :: r = (p ++ [c]) ++ r := by simp

theorem ref_Decode_l0 (n : Nat) : ∀ (r p : List UInt8) (x : List Int) (k : Nat), r.length ≤ n → 2 * n + 30 ≤ k → x.length + r.length ≤ 140737488355327 → p.length + r.length ≤ 140737488355327 →
    bastionref01_Decode.l0 k (B (p ++ r)) x p.length = some (strOfNums (x ++ ns (decL r))) := by
  induction n with
  | zero =>
    intro r p x k hl hk hx hp
    obtain ⟨k, rfl⟩ : ∃ m, k = m + 1 := ⟨k - 1, by omega⟩
    obtain rfl : r = [] := List.eq_nil_of_length_eq_zero (by omega)
    simp only [bastionref01_Decode.l0]
    rw [if_neg (by rw [B_size]; simp)]
    simp [decL, ns]
  | succ n ih =>
    intro r p x k hl hk hx hp
    obtain ⟨k, rfl⟩ : ∃ m, k = m + 2 := ⟨k - 2, by omega⟩
    cases r with
    | nil =>
      simp only [bastionref01_Decode.l0]
      rw [if_neg (by rw [B_size]; simp)]
      simp [decL, ns]
    | cons c r =>
      have hsz := B_snoc_size p r c
      have hl' : r.length ≤ n := by simpa using hl
      have hx' : x.length + (r.length + 1) ≤ 140737488355327 := by simpa using hx
      have hp' : p.length + (r.length + 1) ≤ 140737488355327 := by simpa using hp
      have h0 : bt (B (p ++ c :: r)) p.length = (c.toNat : Int) := by rw [bt_end p (c :: r) 0 _ (by omega)]; rfl
      have E1 := Lib.hid (show wrap64 ((p.length : Int) + 1) = (p.length : Int) + 1 from w64 (by omega) (by omega))
      have E2 := Lib.hid (show wrap64 ((p.length : Int) + 2) = (p.length : Int) + 2 from w64 (by omega) (by omega))
      have E3 := Lib.hid (show wrap64 ((p.length : Int) + 2 + 1) = (p.length : Int) + 3 from (w64 (by omega) (by omega)).trans (by omega))
      have hone : ∀ k', 2 * n + 30 ≤ k' → bastionref01_Decode.l0 k' (B (p ++ c :: r)) (x ++ [(c.toNat : Int)]) ((p.length : Int) + 1) = some (strOfNums (x ++ ns (c :: decL r))) := by
        intro k' hk'
        have := ih r (p ++ [c]) (x ++ [(c.toNat : Int)]) k' hl' hk' (by simp; omega) (by simp; omega)
        rw [← snoc_eq] at this
        simp only [List.length_append, List.length_cons, List.length_nil, Nat.zero_add, Int.natCast_add, Int.natCast_one] at this
        rw [this]
        simp [ns_cons]
      have hplain : bastionref01_Decode.j1 (k + 1) (B (p ++ c :: r)) x p.length false = some (strOfNums (x ++ ns (c :: decL r))) := by
        simp only [bastionref01_Decode.j1]
        rw [if_neg (by decide), if_pos (by omega), if_pos (by rw [hsz]; omega), if_pos (by omega), h0, E1.out]
        exact hone k (by omega)
      simp only [bastionref01_Decode.l0]
      rw [if_pos (by rw [hsz]; omega), if_pos (by omega), h0]
      by_cases h37 : c = 37
      · subst h37
        rw [if_pos (by decide), E1.out, E2.out]
        match r, hl', hx', hp', hone, hplain, h0, hsz with
        | [], _, _, _, _, hplain, _, hsz => rw [if_neg (by rw [hsz]; simp <;> omega), hplain, decL_short 37 [] (by simp)]
        | [a], _, _, _, _, hplain, _, hsz => rw [if_neg (by rw [hsz]; simp <;> omega), hplain, decL_short 37 [a] (by simp)]
        | a :: b :: r, hl', hx', hp', hone, hplain, h0, hsz =>
          have s3 : ((B (p ++ 37 :: a :: b :: r)).size : Int) = (p.length : Int) + (r.length : Int) + 3 := by rw [hsz]; simp; omega
          have h1 : bt (B (p ++ 37 :: a :: b :: r)) ((p.length : Int) + 1) = (a.toNat : Int) := by rw [bt_end p (37 :: a :: b :: r) 1 _ (by omega)]; rfl
          have h2 : bt (B (p ++ 37 :: a :: b :: r)) ((p.length : Int) + 2) = (b.toNat : Int) := by rw [bt_end p (37 :: a :: b :: r) 2 _ (by omega)]; rfl
          rw [if_pos (by rw [s3]; omega), if_pos (by omega), if_pos (by rw [s3]; omega), h1, ref_Digit_f a (k + 1) (by omega)]
          simp only [Option.bind_some]
          by_cases ea : (digI a.toNat).2 = true
          · obtain ⟨q1, hq1, ep, dp⟩ := dg_some ea
            rw [if_pos ea, ep]
            simp only []
            rw [if_pos (by omega), if_pos (by omega), h2, ref_Digit_f b (k + 1) (by omega)]
            simp only [Option.bind_some]
            by_cases eb : (digI b.toNat).2 = true
            · obtain ⟨q2, hq2, eq, dq⟩ := dg_some eb
              rw [if_pos eb, eq, decide_eq_true (by simp only []; omega)]
              simp only [bastionref01_Decode.j1]
              rw [if_pos trivial, E1.out, E2.out, if_pos (by omega), if_pos (by rw [s3]; omega), h1, ref_Digit_f a k (by omega)]
              simp only [Option.bind_some]
              rw [if_pos (by omega), if_pos (by rw [s3]; omega), h2, ref_Digit_f b k (by omega)]
              simp only [Option.bind_some]
              rw [if_pos ea, if_pos eb, if_pos (by omega), ep, eq, E3.out]
              simp only []
              rw [cat_tab ⟨q1, hq1⟩ ⟨q2, hq2⟩, decL_yes r dp dq]
              have := ih r (p ++ [37, a, b]) (x ++ [(((16 * q1 + q2).toUInt8).toNat : Int)]) k (by simp at hl'; omega) (by omega) (by simp at hx' ⊢; omega) (by simp at hp' ⊢; omega)
              rw [show (p ++ [37, a, b]) ++ r = p ++ 37 :: a :: b :: r by simp, show (((p ++ [37, a, b]).length : Nat) : Int) = (p.length : Int) + 3 by simp] at this
              simp only []
              rw [this]
              simp [ns_cons]
            · rw [if_neg eb, show (decide ((16 : Int) < 16)) = false from rfl, hplain, decL_no _ _ (.inr (dg_none (Bool.eq_false_iff.mpr eb)))]
          · rw [if_neg ea, if_neg (by omega), hplain, decL_no _ _ (.inl (dg_none (Bool.eq_false_iff.mpr ea)))]
      · rw [if_neg (by intro e; apply h37; exact UInt8.toNat_inj.mp (by have : (37 : UInt8).toNat = 37 := rfl; omega)), hplain, decL_cons_ne h37]
theorem ref_Decode_ev (l : List UInt8) (h : l.length ≤ 140737488355327) : Ev (fun k => bastionref01_Decode.f k (B l)) (B (decL l)) :=
  Ev.mk (2 * l.length + 30) fun k hk => by
    unfold bastionref01_Decode.f
    have := ref_Decode_l0 l.length l [] [] k (Nat.le_refl _) hk (by simpa using h) (by simpa using h)
    rw [List.nil_append, List.nil_append, strOf_ns] at this
    exact this

/-! letters -/
def lowC (c : UInt8) : UInt8 := if 65 ≤ c.toNat ∧ c.toNat ≤ 90 then (c.toNat + 32).toUInt8 else c
def upC (c : UInt8) : UInt8 := if 97 ≤ c.toNat ∧ c.toNat ≤ 122 then (c.toNat - 32).toUInt8 else c
theorem low_tab : ∀ b : Fin 256, turnV 65 90 32 (b.val.toUInt8.toNat : Int) = ((lowC b.val.toUInt8).toNat : Int) := by decide +kernel
theorem up_tab : ∀ b : Fin 256, turnV 97 122 32 (b.val.toUInt8.toNat : Int) = ((upC b.val.toUInt8).toNat : Int) := by decide +kernel
theorem turnL_low (l : List UInt8) : turnL 65 90 32 l = ns (l.map lowC) := by
  unfold turnL ns; rw [List.map_map]; apply List.map_congr_left; intro c _
  exact all_c (p := fun c => turnV 65 90 32 (c.toNat : Int) = ((lowC c).toNat : Int)) low_tab c
theorem turnL_up (l : List UInt8) : turnL 97 122 32 l = ns (l.map upC) := by
  unfold turnL ns; rw [List.map_map]; apply List.map_congr_left; intro c _
  exact all_c (p := fun c => turnV 97 122 32 (c.toNat : Int) = ((upC c).toNat : Int)) up_tab c
theorem pct_Lower_f (l : List UInt8) (h : l.length ≤ 281474976710656) : pct_Lower.f (B l) = some (B (l.map lowC)) := by
  unfold pct_Lower.f pct_turned.f
  rw [if_pos (by rw [B_size]; exact h), Option.bind_some, B_data, turnL_low, strOf_ns]
theorem pct_Upper_f (l : List UInt8) (h : l.length ≤ 281474976710656) : pct_Upper.f (B l) = some (B (l.map upC)) := by
  unfold pct_Upper.f pct_turned.f
  rw [if_pos (by rw [B_size]; exact h), Option.bind_some, B_data, turnL_up, strOf_ns]
theorem pct_Same_f (a b : List UInt8) (h : a.length ≤ 281474976710656) (h' : b.length ≤ 281474976710656) : pct_Same.f (B a) (B b) = some (a.map lowC == b.map lowC) := by
  unfold pct_Same.f
  rw [pct_Lower_f a h, pct_Lower_f b h', Option.bind_some, Option.bind_some, B_toList, B_toList]
theorem low_ref : ∀ b : Fin 256, ((lowC b.val.toUInt8).toNat : Int) = if 65 ≤ (b.val.toUInt8.toNat : Int) then (if (b.val.toUInt8.toNat : Int) ≤ 90 then ((b.val.toUInt8.toNat : Int) + 32) % 256 else (b.val.toUInt8.toNat : Int)) else (b.val.toUInt8.toNat : Int) := by decide +kernel
theorem up_ref : ∀ b : Fin 256, ((upC b.val.toUInt8).toNat : Int) = if 97 ≤ (b.val.toUInt8.toNat : Int) then (if (b.val.toUInt8.toNat : Int) ≤ 122 then ((b.val.toUInt8.toNat : Int) - 32) % 256 else (b.val.toUInt8.toNat : Int)) else (b.val.toUInt8.toNat : Int) := by decide +kernel
theorem ref_Lower_l0 (n : Nat) : ∀ (r p : List UInt8) (x : List Int) (k : Nat), r.length ≤ n → n + 2 ≤ k → x.length + r.length ≤ 140737488355327 → p.length + r.length ≤ 140737488355327 →
    bastionref01_Lower.l0 k (B (p ++ r)) x p.length = some (strOfNums (x ++ ns (r.map lowC))) := by
  induction n with
  | zero =>
    intro r p x k hl hk hx hp
    obtain ⟨k, rfl⟩ : ∃ m, k = m + 1 := ⟨k - 1, by omega⟩
    obtain rfl : r = [] := List.eq_nil_of_length_eq_zero (by omega)
    simp only [bastionref01_Lower.l0]
    rw [if_neg (by rw [B_size]; simp)]
    simp [ns]
  | succ n ih =>
    intro r p x k hl hk hx hp
    obtain ⟨k, rfl⟩ : ∃ m, k = m + 1 := ⟨k - 1, by omega⟩
    cases r with
    | nil =>
      simp only [bastionref01_Lower.l0]
      rw [if_neg (by rw [B_size]; simp)]
      simp [ns]
    | cons c r =>
      have hsz := B_snoc_size p r c
      have hx' : x.length + (r.length + 1) ≤ 140737488355327 := by simpa using hx
      have hp' : p.length + (r.length + 1) ≤ 140737488355327 := by simpa using hp
      have h0 : bt (B (p ++ c :: r)) p.length = (c.toNat : Int) := by rw [bt_end p (c :: r) 0 _ (by omega)]; rfl
      have E1 := Lib.hid (show wrap64 ((p.length : Int) + 1) = (p.length : Int) + 1 from w64 (by omega) (by omega))
      have hc := all_c (p := fun c => ((lowC c).toNat : Int) = if 65 ≤ (c.toNat : Int) then (if (c.toNat : Int) ≤ 90 then ((c.toNat : Int) + 32) % 256 else (c.toNat : Int)) else (c.toNat : Int)) low_ref c
      have key : bastionref01_Lower.l0 k (B (p ++ c :: r)) (x ++ [((lowC c).toNat : Int)]) ((p.length : Int) + 1) = some (strOfNums (x ++ ns ((c :: r).map lowC))) := by
        have := ih r (p ++ [c]) (x ++ [((lowC c).toNat : Int)]) k (by simpa using hl) (by omega) (by simp; omega) (by simp; omega)
        rw [← snoc_eq] at this
        simp only [List.length_append, List.length_cons, List.length_nil, Nat.zero_add, Int.natCast_add, Int.natCast_one] at this
        rw [this]
        simp [ns_cons]
      simp only [bastionref01_Lower.l0]
      rw [if_pos (by rw [hsz]; omega), if_pos (by omega), h0, E1.out]
      by_cases h1 : (c.toNat : Int) ≥ 65
      · rw [if_pos h1]
        rw [if_pos h1] at hc
        by_cases h2 : (c.toNat : Int) ≤ 90
        · rw [if_pos h2, if_pos (by omega)]; rw [if_pos h2] at hc; rw [← hc]; exact key
        · rw [if_neg h2, if_pos (by omega)]; rw [if_neg h2] at hc; rw [hc] at key; exact key
      · rw [if_neg h1, if_pos (by omega)]
        rw [if_neg h1] at hc; rw [hc] at key; exact key
theorem ref_Lower_ev (l : List UInt8) (h : l.length ≤ 140737488355327) : Ev (fun k => bastionref01_Lower.f k (B l)) (B (l.map lowC)) :=
  Ev.mk (l.length + 2) fun k hk => by
    unfold bastionref01_Lower.f
    have := ref_Lower_l0 l.length l [] [] k (Nat.le_refl _) hk (by simpa using h) (by simpa using h)
    rw [List.nil_append, List.nil_append, strOf_ns] at this
    exact this
theorem ref_Upper_l0 (n : Nat) : ∀ (r p : List UInt8) (x : List Int) (k : Nat), r.length ≤ n → n + 2 ≤ k → x.length + r.length ≤ 140737488355327 → p.length + r.length ≤ 140737488355327 →
    bastionref01_Upper.l0 k (B (p ++ r)) x p.length = some (strOfNums (x ++ ns (r.map upC))) := by
  induction n with
  | zero =>
    intro r p x k hl hk hx hp
    obtain ⟨k, rfl⟩ : ∃ m, k = m + 1 := ⟨k - 1, by omega⟩
    obtain rfl : r = [] := List.eq_nil_of_length_eq_zero (by omega)
    simp only [bastionref01_Upper.l0]
    rw [if_neg (by rw [B_size]; simp)]
    simp [ns]
  | succ n ih =>
    intro r p x k hl hk hx hp
    obtain ⟨k, rfl⟩ : ∃ m, k = m + 1 := ⟨k - 1, by omega⟩
    cases r with
    | nil =>
      simp only [bastionref01_Upper.l0]
      rw [if_neg (by rw [B_size]; simp)]
      simp [ns]
    | cons c r =>
      have hsz := B_snoc_size p r c
      have hx' : x.length + (r.length + 1) ≤ 140737488355327 := by simpa using hx
      have hp' : p.length + (r.length + 1) ≤ 140737488355327 := by simpa using hp
      have h0 : bt (B (p ++ c :: r)) p.length = (c.toNat : Int) := by rw [bt_end p (c :: r) 0 _ (by omega)]; rfl
      have E1 := Lib.hid (show wrap64 ((p.length : Int) + 1) = (p.length : Int) + 1 from w64 (by omega) (by omega))
      have hc := all_c (p := fun c => ((upC c).toNat : Int) = if 97 ≤ (c.toNat : Int) then (if (c.toNat : Int) ≤ 122 then ((c.toNat : Int) - 32) % 256 else (c.toNat : Int)) else (c.toNat : Int)) up_ref c
      have key : bastionref01_Upper.l0 k (B (p ++ c :: r)) (x ++ [((upC c).toNat : Int)]) ((p.length : Int) + 1) = some (strOfNums (x ++ ns ((c :: r).map upC))) := by
        have := ih r (p ++ [c]) (x ++ [((upC c).toNat : Int)]) k (by simpa using hl) (by omega) (by simp; omega) (by simp; omega)
        rw [← snoc_eq] at this
        simp only [List.length_append, List.length_cons, List.length_nil, Nat.zero_add, Int.natCast_add, Int.natCast_one] at this
        rw [this]
        simp [ns_cons]
      simp only [bastionref01_Upper.l0]
      rw [if_pos (by rw [hsz]; omega), if_pos (by omega), h0, E1.out]
      by_cases h1 : (c.toNat : Int) ≥ 97
      · rw [if_pos h1]
        rw [if_pos h1] at hc
        by_cases h2 : (c.toNat : Int) ≤ 122
        · rw [if_pos h2, if_pos (by omega)]; rw [if_pos h2] at hc; rw [← hc]; exact key
        · rw [if_neg h2, if_pos (by omega)]; rw [if_neg h2] at hc; rw [hc] at key; exact key
      · rw [if_neg h1, if_pos (by omega)]
        rw [if_neg h1] at hc; rw [hc] at key; exact key
theorem ref_Upper_ev (l : List UInt8) (h : l.length ≤ 140737488355327) : Ev (fun k => bastionref01_Upper.f k (B l)) (B (l.map upC)) :=
  Ev.mk (l.length + 2) fun k hk => by
    unfold bastionref01_Upper.f
    have := ref_Upper_l0 l.length l [] [] k (Nat.le_refl _) hk (by simpa using h) (by simpa using h)
    rw [List.nil_append, List.nil_append, strOf_ns] at this
    exact this
end Go.Proofs.Ytiobcjgolmiabaa.Q
