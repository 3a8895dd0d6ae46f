/- What bastionref01.In and Encode answer; encoding and decoding undo one another, on lists of bytes. -/
import Derived.Test.YtiobcjgolmiabaaPctP
import Derived.Test.YtiobcjgolmiabaaQbastionref01EncodeA
namespace Go.Proofs.Ytiobcjgolmiabaa.Q
open Go.RowKit Go.Proofs.YtiobcjgolmiabaaW.PrintWords Go.Proofs.YtiobcjgolmiabaaW.PrintLast Go.Proofs.YtiobcjgolmiabaaW.PrintMore Go.Proofs.Ytiobcjgolmiabaa.P1
set_option linter.unusedSimpArgs false
set_option linter.unusedVariables false

theorem Ev.const {α : Type} {g : Option α} {r : α} (h : g = some r) : Ev (fun _ => g) r := Ev.mk 0 fun _ _ => h
/-! the reference's sets -/
theorem ref_In_tab : ∀ s : Fin 8, ∀ b : Fin 256, bastionref01_In.f 40 ((s.val : Int) + 1) (b.val : Int) = some (inB ((s.val : Int) + 1) (b.val : Int)) := by
  decide +kernel
def inR (s b : Int) : Bool := if s < 1 ∨ 9 ≤ s then false else inB s b
theorem ref_In_40 (s b : Int) (h0 : 0 ≤ b) (h1 : b < 256) : bastionref01_In.f 40 s b = some (inR s b) := by
  unfold inR
  by_cases h : s < 1 ∨ 9 ≤ s
  · rw [if_pos h]
    rw [bastionref01_In.f]
    by_cases h2 : s < 1
    · rw [if_pos h2]; rfl
    · rw [if_neg h2, decide_eq_true (show s ≥ 9 by omega)]; rfl
  · rw [if_neg h]
    have := ref_In_tab ⟨(s - 1).toNat, by omega⟩ ⟨b.toNat, by omega⟩
    simp only [] at this
    rw [show (((s - 1).toNat : Nat) : Int) + 1 = s by omega, show ((b.toNat : Nat) : Int) = b by omega] at this
    exact this
theorem ref_In_f (s b : Int) (h0 : 0 ≤ b) (h1 : b < 256) (k : Nat) (hk : 40 ≤ k) : bastionref01_In.f k s b = some (inR s b) :=
  at_more (fun k => bastionref01_In.mono _ _ k) hk (ref_In_40 s b h0 h1)
theorem pct_In_k (s b : Int) (k : Nat) (hk : 30 ≤ k) : pct_In.f k s b = some (inB s b) := at_more (fun k => pct_In.mono _ _ k) hk (pct_In_f s b)
theorem inR_eq {s : Int} (b : Int) (h0 : 0 ≤ s) : inR s b = inB s b := by
  unfold inR
  by_cases h : s < 1 ∨ 9 ≤ s
  · rw [if_pos h]; unfold inB
    repeat rw [if_neg (by omega)]
  · rw [if_neg h]
/-! the reference's Encode -/
theorem enc_tab : ∀ b : Fin 256, 0 ≤ (Int.tdiv (b.val : Int) 16) % 256 ∧ (Int.tdiv (b.val : Int) 16) % 256 < 16 ∧ 0 ≤ Int.tmod (b.val : Int) 16 ∧ Int.tmod (b.val : Int) 16 < 16 ∧
    bt (⟨#[48, 49, 50, 51, 52, 53, 54, 55, 56, 57, 65, 66, 67, 68, 69, 70]⟩ : ByteArray) ((Int.tdiv (b.val : Int) 16) % 256) = ((hexU (b.val / 16)).toNat : Int) ∧
    bt (⟨#[48, 49, 50, 51, 52, 53, 54, 55, 56, 57, 65, 66, 67, 68, 69, 70]⟩ : ByteArray) (Int.tmod (b.val : Int) 16) = ((hexU (b.val % 16)).toNat : Int) := by decide +kernel
theorem ref_Encode_l0 (s : Int) (h1 : 1 ≤ s) (h9 : s < 9) (n : Nat) : ∀ (r p : List UInt8) (x : List Int) (k : Nat), r.length ≤ n → n + 50 ≤ k → x.length + 3 * r.length ≤ 140737488355000 → p.length + r.length ≤ 140737488355000 →
    bastionref01_Encode.l0 k (B (p ++ r)) s x p.length = some (strOfNums (x ++ ns (encL s r)), 0) := by
  induction n with
  | zero =>
    intro r p x k hl hk hx hp
    obtain ⟨k, rfl⟩ : ∃ m, k = m + 1 := ⟨k - 1, by omega⟩
    obtain rfl : r = [] := List.eq_nil_of_length_eq_zero (by omega)
    simp only [bastionref01_Encode.l0]
    rw [if_neg (by rw [B_size]; simp)]
    simp [encL, ns]
  | succ n ih =>
    intro r p x k hl hk hx hp
    obtain ⟨k, rfl⟩ : ∃ m, k = m + 1 := ⟨k - 1, by omega⟩
    cases r with
    | nil =>
      simp only [bastionref01_Encode.l0]
      rw [if_neg (by rw [B_size]; simp)]
      simp [encL, ns]
    | cons c r =>
      have hsz := B_snoc_size p r c
      have hx' : x.length + 3 * (r.length + 1) ≤ 140737488355000 := by simpa using hx
      have hp' : p.length + (r.length + 1) ≤ 140737488355000 := by simpa using hp
      have h0 : bt (B (p ++ c :: r)) p.length = (c.toNat : Int) := by rw [bt_end p (c :: r) 0 _ (by omega)]; rfl
      have E1 := Lib.hid (show wrap64 ((p.length : Int) + 1) = (p.length : Int) + 1 from w64 (by omega) (by omega))
      have hc := enc_tab ⟨c.toNat, c.toNat_lt⟩
      simp only [] at hc
      obtain ⟨g1, g2, g3, g4, g5, g6⟩ := hc
      have key : ∀ y : List UInt8, y = encByte s c → bastionref01_Encode.l0 k (B (p ++ c :: r)) s (x ++ ns y) ((p.length : Int) + 1) = some (strOfNums (x ++ ns (encL s (c :: r))), 0) := by
        intro y hy
        have hyl : y.length ≤ 3 := by rw [hy]; exact encByte_length s c
        have := ih r (p ++ [c]) (x ++ ns y) k (by simpa using hl) (by omega) (by rw [List.length_append, ns_length]; omega) (by simp; omega)
        rw [← snoc_eq] at this
        simp only [List.length_append, List.length_cons, List.length_nil, Nat.zero_add, Int.natCast_add, Int.natCast_one] at this
        rw [this, show encL s (c :: r) = y ++ encL s r by rw [hy]; rfl, ns_append]
        simp
      simp only [bastionref01_Encode.l0]
      rw [if_pos (by rw [hsz]; omega), if_pos (by omega), h0, ref_In_f s c.toNat (by omega) (u8_lt c) k (by omega), inR_eq _ (by omega)]
      simp only [Option.bind_some]
      by_cases hin : inB s c.toNat = true
      · rw [if_pos hin, if_pos g1, if_pos g2, if_pos g3, if_pos g4, g5, g6, if_pos (by simp; omega), E1.out]
        exact key [37, hexU (c.toNat / 16), hexU (c.toNat % 16)] (by unfold encByte; rw [if_pos hin])
      · rw [if_neg hin, if_pos (by omega), E1.out]
        exact key [c] (by unfold encByte; rw [if_neg hin])
theorem ref_Encode_good (l : List UInt8) (s : Int) (h1 : 1 ≤ s) (h9 : s < 9) (h : l.length ≤ 35184372088832) : Ev (fun k => bastionref01_Encode.f k (B l) s) (B (encL s l), 0) :=
  Ev.mk (l.length + 60) fun k hk => by
    obtain ⟨k, rfl⟩ : ∃ m, k = m + 1 := ⟨k - 1, by omega⟩
    unfold bastionref01_Encode.f
    rw [if_neg (by omega), decide_eq_false (by omega)]
    simp only [bastionref01_Encode.j0]
    have := ref_Encode_l0 s h1 h9 l.length l [] [] k (Nat.le_refl _) (by omega) (by simp; omega) (by simp; omega)
    rw [List.nil_append, List.nil_append, strOf_ns] at this
    simpa using this
theorem ref_Encode_bad (l : List UInt8) (s : Int) (h : s < 1 ∨ 9 ≤ s) : Ev (fun k => bastionref01_Encode.f k (B l) s) (B [], 5) :=
  Ev.mk 2 fun k hk => by
    obtain ⟨k, rfl⟩ : ∃ m, k = m + 1 := ⟨k - 1, by omega⟩
    unfold bastionref01_Encode.f
    by_cases h1 : s < 1
    · rw [if_pos h1]; simp [bastionref01_Encode.j0]; rfl
    · rw [if_neg h1, decide_eq_true (by omega)]; simp [bastionref01_Encode.j0]; rfl
theorem pct_Encode_good (l : List UInt8) (s : Int) (h1 : 1 ≤ s) (h9 : s < 9) (h : l.length ≤ 35184372088832) : pct_Encode.f (B l) s = some (B (encL s l), 0) := by
  unfold pct_Encode.f
  rw [if_neg (by omega), if_pos ⟨h1, h⟩]; rfl
theorem pct_Encode_bad (l : List UInt8) (s : Int) (h : s = 0 ∨ 9 ≤ s) : pct_Encode.f (B l) s = some (B [], 5) := by
  unfold pct_Encode.f
  rw [if_pos h]; rfl
theorem ref_Same_ev (a b : List UInt8) (h : a.length ≤ 140737488355327) (h' : b.length ≤ 140737488355327) : Ev (fun k => bastionref01_Same.f k (B a) (B b)) (a.map lowC == b.map lowC) := by
  unfold bastionref01_Same.f
  refine (ref_Lower_ev a h).bind ((ref_Lower_ev b h').bind ?_)
  rw [B_toList, B_toList]
  exact Ev.now _

/-! there and back -/
theorem hex_not_in : ∀ s : Fin 9, ∀ n : Fin 16, inB (s.val : Int) ((hexU n.val).toNat : Int) = false := by decide +kernel
theorem hexD : ∀ n : Fin 16, dg (hexU n.val) = some n.val := by decide +kernel
theorem dg_not_in : ∀ s : Fin 9, ∀ b : Fin 256, (dg b.val.toUInt8).isSome = true → inB (s.val : Int) (b.val.toUInt8.toNat : Int) = false := by decide +kernel
theorem byte_of_digits : ∀ b : Fin 256, (16 * (b.val / 16) + b.val % 16).toUInt8 = b.val.toUInt8 := by decide +kernel
theorem pct_in : ∀ s : Fin 9, inB (s.val : Int) 37 = decide (7 ≤ s.val) := by decide +kernel
theorem hex_no37 : ∀ n : Fin 16, hexU n.val ≠ 37 := by decide +kernel
theorem dg37 : dg 37 = none := by decide +kernel
def okS (s : Int) (s' : Fin 9) : Prop := s = (s'.val : Int)
theorem s_fin {s : Int} (h0 : 0 ≤ s) (h9 : s < 9) : ∃ s' : Fin 9, s = (s'.val : Int) := ⟨⟨s.toNat, by omega⟩, by simp; omega⟩
theorem encL_cons (s : Int) (c : UInt8) (l : List UInt8) : encL s (c :: l) = encByte s c ++ encL s l := by simp [encL]
/-- a byte that is encoded is decoded -/
theorem decL_enc (c : UInt8) (r : List UInt8) : decL (37 :: hexU (c.toNat / 16) :: hexU (c.toNat % 16) :: r) = c :: decL r := by
  have h1 := hexD ⟨c.toNat / 16, by have := c.toNat_lt; omega⟩
  have h2 := hexD ⟨c.toNat % 16, by omega⟩
  have h3 := byte_of_digits ⟨c.toNat, c.toNat_lt⟩
  simp only [] at h1 h2 h3
  rw [decL_yes r h1 h2, h3]
  simp
/-- by a set with the sign -/
theorem decL_encL_sign (s' : Fin 9) (h : 7 ≤ s'.val) (l : List UInt8) : decL (encL (s'.val : Int) l) = l := by
  induction l with
  | nil => rfl
  | cons c l ih =>
    rw [encL_cons]
    unfold encByte
    by_cases hin : inB (s'.val : Int) (c.toNat : Int) = true
    · rw [if_pos hin]
      show decL (37 :: hexU (c.toNat / 16) :: hexU (c.toNat % 16) :: encL _ l) = _
      rw [decL_enc, ih]
    · rw [if_neg hin]
      have hne : c ≠ 37 := by
        intro e; subst e
        have := pct_in s'
        apply hin
        show inB _ 37 = true
        rw [this]; exact decide_eq_true h
      show decL (c :: encL _ l) = _
      rw [decL_cons_ne hne, ih]
/-- what is encoded has no byte of the set but the sign -/
theorem encL_no (s' : Fin 9) (l : List UInt8) : ∀ c ∈ encL (s'.val : Int) l, c = 37 ∨ inB (s'.val : Int) (c.toNat : Int) = false := by
  intro c hc
  simp only [encL, List.mem_flatMap] at hc
  obtain ⟨d, _, hd⟩ := hc
  unfold encByte at hd
  by_cases hin : inB (s'.val : Int) (d.toNat : Int) = true
  · rw [if_pos hin] at hd
    simp only [List.mem_cons, List.not_mem_nil, or_false] at hd
    rcases hd with rfl | rfl | rfl
    · exact .inl rfl
    · exact .inr (hex_not_in s' ⟨d.toNat / 16, by have := d.toNat_lt; omega⟩)
    · exact .inr (hex_not_in s' ⟨d.toNat % 16, by omega⟩)
  · rw [if_neg hin] at hd
    simp only [List.mem_cons, List.not_mem_nil, or_false] at hd
    subst hd
    exact .inr (Bool.eq_false_iff.mpr hin)
theorem encL_id (s : Int) (l : List UInt8) (h : ∀ c ∈ l, inB s (c.toNat : Int) = false) : encL s l = l := by
  induction l with
  | nil => rfl
  | cons c l ih =>
    rw [encL_cons, ih (fun d hd => h d (List.mem_cons_of_mem _ hd))]
    unfold encByte
    rw [h c List.mem_cons_self]; rfl
theorem encL_twice (s' : Fin 9) (h : ¬ 7 ≤ s'.val) (l : List UInt8) : encL (s'.val : Int) (encL (s'.val : Int) l) = encL (s'.val : Int) l := by
  refine encL_id _ _ fun c hc => ?_
  rcases encL_no s' l c hc with rfl | hn
  · have := pct_in s'
    show inB _ 37 = false
    rw [this]; exact decide_eq_false h
  · exact hn
def twoHex : List UInt8 → Bool
  | a :: b :: _ => (dg a).isSome && (dg b).isSome
  | _ => false
theorem decL_37_no (x : List UInt8) (h : twoHex x = false) : decL (37 :: x) = 37 :: decL x := by
  match x, h with
  | [], _ => rfl
  | [a], _ => rfl
  | a :: b :: r, h =>
    refine decL_no 37 r ?_
    simp only [twoHex, Bool.and_eq_false_iff] at h
    rcases h with h | h
    · exact .inl (by simpa using h)
    · exact .inr (by simpa using h)
theorem head_enc (s : Int) (c : UInt8) (h : dg c = none) : ∃ d r, encByte s c = d :: r ∧ dg d = none := by
  unfold encByte
  split
  · exact ⟨37, _, rfl, dg37⟩
  · exact ⟨c, [], rfl, h⟩
theorem dg_stay (s' : Fin 9) (c : UInt8) (h : (dg c).isSome = true) : encByte (s'.val : Int) c = [c] := by
  have := dg_not_in s' ⟨c.toNat, c.toNat_lt⟩
  simp only [Nat.toUInt8] at this
  rw [UInt8.ofNat_toNat] at this
  unfold encByte
  rw [this h]; rfl
theorem twoHex_enc (s' : Fin 9) (x : List UInt8) (h : twoHex x = false) : twoHex (encL (s'.val : Int) x) = false := by
  match x, h with
  | [], _ => rfl
  | [a], _ =>
    rw [encL_cons]
    cases e : dg a with
    | none =>
      obtain ⟨d, r, e1, e2⟩ := head_enc (s'.val : Int) a e
      rw [e1]
      show twoHex (d :: (r ++ encL _ [])) = false
      cases r ++ encL (s'.val : Int) [] with
      | nil => rfl
      | cons b t => simp [twoHex, e2]
    | some n => rw [dg_stay s' a (by rw [e]; rfl)]; rfl
  | a :: b :: r, h =>
    simp only [twoHex, Bool.and_eq_false_iff] at h
    rw [encL_cons, encL_cons]
    cases e : dg a with
    | none =>
      obtain ⟨d, t, e1, e2⟩ := head_enc (s'.val : Int) a e
      rw [e1]
      show twoHex (d :: (t ++ _)) = false
      cases t ++ (encByte (s'.val : Int) b ++ encL (s'.val : Int) r) with
      | nil => rfl
      | cons b t => simp [twoHex, e2]
    | some n =>
      rw [dg_stay s' a (by rw [e]; rfl)]
      have hb : dg b = none := by
        rcases h with h | h
        · rw [e] at h; simp at h
        · simpa using h
      obtain ⟨d, t, e1, e2⟩ := head_enc (s'.val : Int) b hb
      rw [e1]
      simp [twoHex, e2]
/-- by a set without the sign: decoded as what the text is decoded as -/
theorem decL_encL (s' : Fin 9) (h : ¬ 7 ≤ s'.val) (n : Nat) : ∀ l : List UInt8, l.length ≤ n → decL (encL (s'.val : Int) l) = decL l := by
  have h37 : encByte (s'.val : Int) 37 = [37] := by
    unfold encByte
    have := pct_in s'
    rw [if_neg (by show ¬ inB _ 37 = true; rw [this]; simp; omega)]
  induction n with
  | zero => intro l hl; rw [List.eq_nil_of_length_eq_zero (by omega : l.length = 0)]; rfl
  | succ n ih =>
    intro l hl
    cases l with
    | nil => rfl
    | cons c r =>
      have hr := ih r (by simpa using hl)
      by_cases hc : c = 37
      · subst hc
        rw [encL_cons, h37]
        show decL (37 :: encL _ r) = _
        cases ht : twoHex r with
        | false => rw [decL_37_no _ (twoHex_enc s' r ht), decL_37_no _ ht, hr]
        | true =>
          match r, ht, hl with
          | a :: b :: r, ht, hl =>
            simp only [twoHex, Bool.and_eq_true] at ht
            rw [encL_cons, encL_cons, dg_stay s' a ht.1, dg_stay s' b ht.2]
            obtain ⟨x, hx⟩ := Option.isSome_iff_exists.mp ht.1
            obtain ⟨y, hy⟩ := Option.isSome_iff_exists.mp ht.2
            show decL (37 :: a :: b :: encL _ r) = _
            rw [decL_yes _ hx hy, decL_yes _ hx hy, ih r (by simp at hl; omega)]
      · rw [encL_cons, decL_cons_ne hc]
        unfold encByte
        by_cases hin : inB (s'.val : Int) (c.toNat : Int) = true
        · rw [if_pos hin]
          show decL (37 :: hexU (c.toNat / 16) :: hexU (c.toNat % 16) :: encL _ r) = _
          rw [decL_enc, hr]
        · rw [if_neg hin]
          show decL (c :: encL _ r) = _
          rw [decL_cons_ne hc, hr]
end Go.Proofs.Ytiobcjgolmiabaa.Q
