/- Percent-encoding and decoding undo one another, on lists of bytes. -/
import Derived.Test.YtiobcjgolmiabaaPctC
namespace Go.Proofs.Ytiobcjgolmiabaa.Q
open Go.RowKit Go.Proofs.YtiobcjgolmiabaaW.PrintWords Go.Proofs.YtiobcjgolmiabaaW.PrintLast Go.Proofs.YtiobcjgolmiabaaW.PrintMore Go.Proofs.Ytiobcjgolmiabaa.P1
set_option linter.unusedSimpArgs false
set_option linter.unusedVariables false
theorem pct_In_k (s b : Int) (k : Nat) (hk : 30 ≤ k) : pct_In.f k s b = some (inB s b) := at_more (fun k => pct_In.mono _ _ k) hk (pct_In_f s b)
theorem pct_Encode_good (l : List UInt8) (s : Int) (h1 : 1 ≤ s) (h9 : s < 9) (h : l.length ≤ 35184372088832) : pct_Encode.f (B l) s = some (B (encL s l), 0) := by
  unfold pct_Encode.f
  rw [if_neg (by omega), if_pos ⟨h1, h⟩]; rfl
theorem pct_Encode_bad (l : List UInt8) (s : Int) (h : s = 0 ∨ 9 ≤ s) : pct_Encode.f (B l) s = some (B [], 5) := by
  unfold pct_Encode.f
  rw [if_pos h]; rfl
/-! there and back -/
theorem hex_not_in : ∀ s : Fin 9, ∀ n : Fin 16, inB (s.val : Int) ((hexU n.val).toNat : Int) = false := by decide +kernel
theorem hexD : ∀ n : Fin 16, dg (hexU n.val) = some n.val := by decide +kernel
theorem dg_not_in : ∀ s : Fin 9, ∀ b : Fin 256, (dg b.val.toUInt8).isSome = true → inB (s.val : Int) (b.val.toUInt8.toNat : Int) = false := by decide +kernel
theorem byte_of_digits : ∀ b : Fin 256, (16 * (b.val / 16) + b.val % 16).toUInt8 = b.val.toUInt8 := by decide +kernel
theorem pct_in : ∀ s : Fin 9, inB (s.val : Int) 37 = decide (7 ≤ s.val) := by decide +kernel
theorem hex_no37 : ∀ n : Fin 16, hexU n.val ≠ 37 := by decide +kernel
theorem dg37 : dg 37 = none := by decide +kernel
def okS (s : Int) (s' : Fin 9) : Prop := s = (s'.val : Int)
theorem s_fin {s : Int} (h0 : 0 ≤ s) (h9 : s < 9) : ∃ s' : Fin 9, s = (s'.val : Int) := ⟨⟨s.toNat, by omega⟩, by simp; omega⟩
theorem encL_cons (s : Int) (c : UInt8) (l : List UInt8) : encL s (c :: l) = encByte s c ++ encL s l := by simp [encL]
/-- a byte that is encoded is decoded -/
theorem decL_enc (c : UInt8) (r : List UInt8) : decL (37 :: hexU (c.toNat / 16) :: hexU (c.toNat % 16) :: r) = c :: decL r := by
  have h1 := hexD ⟨c.toNat / 16, by have := c.toNat_lt; omega⟩
  have h2 := hexD ⟨c.toNat % 16, by omega⟩
  have h3 := byte_of_digits ⟨c.toNat, c.toNat_lt⟩
  simp only [] at h1 h2 h3
  rw [decL_yes r h1 h2, h3]
  simp
/-- by a set with the sign -/
theorem decL_encL_sign (s' : Fin 9) (h : 7 ≤ s'.val) (l : List UInt8) : decL (encL (s'.val : Int) l) = l := by
  induction l with
  | nil => rfl
  | cons c l ih =>
    rw [encL_cons]
    unfold encByte
    by_cases hin : inB (s'.val : Int) (c.toNat : Int) = true
    · rw [if_pos hin]
      show decL (37 :: hexU (c.toNat / 16) :: hexU (c.toNat % 16) :: encL _ l) = _
      rw [decL_enc, ih]
    · rw [if_neg hin]
      have hne : c ≠ 37 := by
        intro e; subst e
        have := pct_in s'
        apply hin
        show inB _ 37 = true
        rw [this]; exact decide_eq_true h
      show decL (c :: encL _ l) = _
      rw [decL_cons_ne hne, ih]
/-- what is encoded has no byte of the set but the sign -/
theorem encL_no (s' : Fin 9) (l : List UInt8) : ∀ c ∈ encL (s'.val : Int) l, c = 37 ∨ inB (s'.val : Int) (c.toNat : Int) = false := by
  intro c hc
  simp only [encL, List.mem_flatMap] at hc
  obtain ⟨d, _, hd⟩ := hc
  unfold encByte at hd
  by_cases hin : inB (s'.val : Int) (d.toNat : Int) = true
  · rw [if_pos hin] at hd
    simp only [List.mem_cons, List.not_mem_nil, or_false] at hd
    rcases hd with rfl | rfl | rfl
    · exact .inl rfl
    · exact .inr (hex_not_in s' ⟨d.toNat / 16, by have := d.toNat_lt; omega⟩)
    · exact .inr (hex_not_in s' ⟨d.toNat % 16, by omega⟩)
  · rw [if_neg hin] at hd
    simp only [List.mem_cons, List.not_mem_nil, or_false] at hd
    subst hd
    exact .inr (Bool.eq_false_iff.mpr hin)
theorem encL_id (s : Int) (l : List UInt8) (h : ∀ c ∈ l, inB s (c.toNat : Int) = false) : encL s l = l := by
  induction l with
  | nil => rfl
  | cons c l ih =>
    rw [encL_cons, ih (fun d hd => h d (List.mem_cons_of_mem _ hd))]
    unfold encByte
    rw [h c List.mem_cons_self]; rfl
theorem encL_twice (s' : Fin 9) (h : ¬ 7 ≤ s'.val) (l : List UInt8) : encL (s'.val : Int) (encL (s'.val : Int) l) = encL (s'.val : Int) l := by
  refine encL_id _ _ fun c hc => ?_
  rcases encL_no s' l c hc with rfl | hn
  · have := pct_in s'
    show inB _ 37 = false
    rw [this]; exact decide_eq_false h
  · exact hn
def twoHex : List UInt8 → Bool
  | a :: b :: _ => (dg a).isSome && (dg b).isSome
  | _ => false
theorem decL_37_no (x : List UInt8) (h : twoHex x = false) : decL (37 :: x) = 37 :: decL x := by
  match x, h with
  | [], _ => rfl
  | [a], _ => rfl
  | a :: b :: r, h =>
    refine decL_no 37 r ?_
    simp only [twoHex, Bool.and_eq_false_iff] at h
    rcases h with h | h
    · exact .inl (by simpa using h)
    · exact .inr (by simpa using h)
theorem head_enc (s : Int) (c : UInt8) (h : dg c = none) : ∃ d r, encByte s c = d :: r ∧ dg d = none := by
  unfold encByte
  split
  · exact ⟨37, _, rfl, dg37⟩
  · exact ⟨c, [], rfl, h⟩
theorem dg_stay (s' : Fin 9) (c : UInt8) (h : (dg c).isSome = true) : encByte (s'.val : Int) c = [c] := by
  have := dg_not_in s' ⟨c.toNat, c.toNat_lt⟩
  simp only [Nat.toUInt8] at this
  rw [UInt8.ofNat_toNat] at this
  unfold encByte
  rw [this h]; rfl
theorem twoHex_enc (s' : Fin 9) (x : List UInt8) (h : twoHex x = false) : twoHex (encL (s'.val : Int) x) = false := by
  match x, h with
  | [], _ => rfl
  | [a], _ =>
    rw [encL_cons]
    cases e : dg a with
    | none =>
      obtain ⟨d, r, e1, e2⟩ := head_enc (s'.val : Int) a e
      rw [e1]
      show twoHex (d :: (r ++ encL _ [])) = false
      cases r ++ encL (s'.val : Int) [] with
      | nil => rfl
      | cons b t => simp [twoHex, e2]
    | some n => rw [dg_stay s' a (by rw [e]; rfl)]; rfl
  | a :: b :: r, h =>
    simp only [twoHex, Bool.and_eq_false_iff] at h
    rw [encL_cons, encL_cons]
    cases e : dg a with
    | none =>
      obtain ⟨d, t, e1, e2⟩ := head_enc (s'.val : Int) a e
      rw [e1]
      show twoHex (d :: (t ++ _)) = false
      cases t ++ (encByte (s'.val : Int) b ++ encL (s'.val : Int) r) with
      | nil => rfl
      | cons b t => simp [twoHex, e2]
    | some n =>
      rw [dg_stay s' a (by rw [e]; rfl)]
      have hb : dg b = none := by
        rcases h with h | h
        · rw [e] at h; simp at h
        · simpa using h
      obtain ⟨d, t, e1, e2⟩ := head_enc (s'.val : Int) b hb
      rw [e1]
      simp [twoHex, e2]
/-- by a set without the sign: decoded as what the text is decoded as -/
theorem decL_encL (s' : Fin 9) (h : ¬ 7 ≤ s'.val) (n : Nat) : ∀ l : List UInt8, l.length ≤ n → decL (encL (s'.val : Int) l) = decL l := by
  have h37 : encByte (s'.val : Int) 37 = [37] := by
    unfold encByte
    have := pct_in s'
    rw [if_neg (by show ¬ inB _ 37 = true; rw [this]; simp; omega)]
  induction n with
  | zero => intro l hl; rw [List.eq_nil_of_length_eq_zero (by omega : l.length = 0)]; rfl
  | succ n ih =>
    intro l hl
    cases l with
    | nil => rfl
    | cons c r =>
      have hr := ih r (by simpa using hl)
      by_cases hc : c = 37
      · subst hc
        rw [encL_cons, h37]
        show decL (37 :: encL _ r) = _
        cases ht : twoHex r with
        | false => rw [decL_37_no _ (twoHex_enc s' r ht), decL_37_no _ ht, hr]
        | true =>
          match r, ht, hl with
          | a :: b :: r, ht, hl =>
            simp only [twoHex, Bool.and_eq_true] at ht
            rw [encL_cons, encL_cons, dg_stay s' a ht.1, dg_stay s' b ht.2]
            obtain ⟨x, hx⟩ := Option.isSome_iff_exists.mp ht.1
            obtain ⟨y, hy⟩ := Option.isSome_iff_exists.mp ht.2
            show decL (37 :: a :: b :: encL _ r) = _
            rw [decL_yes _ hx hy, decL_yes _ hx hy, ih r (by simp at hl; omega)]
      · rw [encL_cons, decL_cons_ne hc]
        unfold encByte
        by_cases hin : inB (s'.val : Int) (c.toNat : Int) = true
        · rw [if_pos hin]
          show decL (37 :: hexU (c.toNat / 16) :: hexU (c.toNat % 16) :: encL _ r) = _
          rw [decL_enc, hr]
        · rw [if_neg hin]
          show decL (c :: encL _ r) = _
          rw [decL_cons_ne hc, hr]
end Go.Proofs.Ytiobcjgolmiabaa.Q
