/- What pct.Decode, Lower, Upper, Same and the reference's answer, on lists of bytes. -/
import Derived.Test.YtbcbmmlpgdndpaaDoorSB3
import Derived.Test.YtbcbmmlpgdndpaaDoorSPctC
import Derived.Lib.Hide
import Derived.Test.YtbcbmmlpgdndpaaDoorSQbastionref010
namespace Go.Proofs.YtbcbmmlpgdndpaaDoor.Q.Pc
open Go.RowKit Go.Proofs.YtbcbmmlpgdndpaaDoorW.PrintWords Go.Proofs.YtbcbmmlpgdndpaaDoorW.PrintLast Go.Proofs.YtbcbmmlpgdndpaaDoorW.PrintMore Go.Proofs.YtbcbmmlpgdndpaaDoor.P1
set_option linter.unusedSimpArgs false
theorem ref_Digit_tab : ∀ b : Fin 256, bastionref01_Digit.f 20 (b.val : Int) = some (if (digI b.val).2 then (digI b.val).1 else 16) := by decide +kernel
theorem ref_Digit_f (c : UInt8) (k : Nat) (hk : 20 ≤ k) : bastionref01_Digit.f k (c.toNat : Int) = some (if (digI c.toNat).2 then (digI c.toNat).1 else 16) :=
  at_more (fun k => bastionref01_Digit.mono _ k) hk (all_u8 (p := fun b => bastionref01_Digit.f 20 b = some (if (digI b).2 then (digI b).1 else 16)) ref_Digit_tab c)
theorem at_end (p r : List UInt8) (j : Nat) (d : UInt8) : (p ++ r).getD (p.length + j) d = r.getD j d := by
  simp [List.getD_eq_getElem?_getD, List.getElem?_append_right (Nat.le_add_right _ _)]
theorem bt_end (p r : List UInt8) (j : Nat) (i : Int) (h : i = (p.length : Int) + j) : bt (B (p ++ r)) i = ((r.getD j 0).toNat : Int) := by
  rw [B_bt, show i.toNat = p.length + j by omega, at_end]
theorem cat_tab : ∀ x y : Fin 16, ((((x.val : Int) * 16) % 256) + (y.val : Int)) % 256 = (((16 * x.val + y.val).toUInt8).toNat : Int) := by decide +kernel
theorem B_snoc_size (p r : List UInt8) (c : UInt8) : ((B (p ++ c :: r)).size : Int) = (p.length : Int) + (r.length : Int) + 1 := by rw [B_size]; simp; omega
theorem snoc_eq (p r : List UInt8) (c : UInt8) : p ++ c :: r = (p ++ [c]) ++ r := by simp
theorem ref_Decode_l0 (n : Nat) : ∀ (r p : List UInt8) (x : List Int) (k : Nat), r.length ≤ n → 2 * n + 30 ≤ k → x.length + r.length ≤ 140737488355327 → p.length + r.length ≤ 140737488355327 →
    bastionref01_Decode.l0 k (B (p ++ r)) x p.length = some (strOfNums (x ++ ns (decL r))) := by
  induction n with
  | zero =>
    intro r p x k hl hk hx hp
    obtain ⟨k, rfl⟩ : ∃ m, k = m + 1 := ⟨k - 1, by omega⟩
    obtain rfl : r = [] := List.eq_nil_of_length_eq_zero (by omega)
    simp only [bastionref01_Decode.l0]
    rw [if_neg (by rw [B_size]; simp)]
    simp [decL, ns]
  | succ n ih =>
    intro r p x k hl hk hx hp
    obtain ⟨k, rfl⟩ : ∃ m, k = m + 2 := ⟨k - 2, by omega⟩
    cases r with
    | nil =>
      simp only [bastionref01_Decode.l0]
      rw [if_neg (by rw [B_size]; simp)]
      simp [decL, ns]
    | cons c r =>
      have hsz := B_snoc_size p r c
      have hl' : r.length ≤ n := by simpa using hl
      have hx' : x.length + (r.length + 1) ≤ 140737488355327 := by simpa using hx
      have hp' : p.length + (r.length + 1) ≤ 140737488355327 := by simpa using hp
      have h0 : bt (B (p ++ c :: r)) p.length = (c.toNat : Int) := by rw [bt_end p (c :: r) 0 _ (by omega)]; rfl
      have E1 := Lib.hid (show wrap64 ((p.length : Int) + 1) = (p.length : Int) + 1 from w64 (by omega) (by omega))
      have E2 := Lib.hid (show wrap64 ((p.length : Int) + 2) = (p.length : Int) + 2 from w64 (by omega) (by omega))
      have E3 := Lib.hid (show wrap64 ((p.length : Int) + 2 + 1) = (p.length : Int) + 3 from (w64 (by omega) (by omega)).trans (by omega))
      have hone : ∀ k', 2 * n + 30 ≤ k' → bastionref01_Decode.l0 k' (B (p ++ c :: r)) (x ++ [(c.toNat : Int)]) ((p.length : Int) + 1) = some (strOfNums (x ++ ns (c :: decL r))) := by
        intro k' hk'
        have := ih r (p ++ [c]) (x ++ [(c.toNat : Int)]) k' hl' hk' (by simp; omega) (by simp; omega)
        rw [← snoc_eq] at this
        simp only [List.length_append, List.length_cons, List.length_nil, Nat.zero_add, Int.natCast_add, Int.natCast_one] at this
        rw [this]
        simp [ns_cons]
      have hplain : bastionref01_Decode.j1 (k + 1) (B (p ++ c :: r)) x p.length false = some (strOfNums (x ++ ns (c :: decL r))) := by
        simp only [bastionref01_Decode.j1]
        rw [if_neg (by decide), if_pos (by omega), if_pos (by rw [hsz]; omega), if_pos (by omega), h0, E1.out]
        exact hone k (by omega)
      simp only [bastionref01_Decode.l0]
      rw [if_pos (by rw [hsz]; omega), if_pos (by omega), h0]
      by_cases h37 : c = 37
      · subst h37
        rw [if_pos (by decide), E1.out, E2.out]
        match r, hl', hx', hp', hone, hplain, h0, hsz with
        | [], _, _, _, _, hplain, _, hsz => rw [if_neg (by rw [hsz]; simp <;> omega), hplain, decL_short 37 [] (by simp)]
        | [a], _, _, _, _, hplain, _, hsz => rw [if_neg (by rw [hsz]; simp <;> omega), hplain, decL_short 37 [a] (by simp)]
        | a :: b :: r, hl', hx', hp', hone, hplain, h0, hsz =>
          have s3 : ((B (p ++ 37 :: a :: b :: r)).size : Int) = (p.length : Int) + (r.length : Int) + 3 := by rw [hsz]; simp; omega
          have h1 : bt (B (p ++ 37 :: a :: b :: r)) ((p.length : Int) + 1) = (a.toNat : Int) := by rw [bt_end p (37 :: a :: b :: r) 1 _ (by omega)]; rfl
          have h2 : bt (B (p ++ 37 :: a :: b :: r)) ((p.length : Int) + 2) = (b.toNat : Int) := by rw [bt_end p (37 :: a :: b :: r) 2 _ (by omega)]; rfl
          rw [if_pos (by rw [s3]; omega), if_pos (by omega), if_pos (by rw [s3]; omega), h1, ref_Digit_f a (k + 1) (by omega)]
          simp only [Option.bind_some]
          by_cases ea : (digI a.toNat).2 = true
          · obtain ⟨q1, hq1, ep, dp⟩ := dg_some ea
            rw [if_pos ea, ep]
            simp only []
            rw [if_pos (by omega), if_pos (by omega), h2, ref_Digit_f b (k + 1) (by omega)]
            simp only [Option.bind_some]
            by_cases eb : (digI b.toNat).2 = true
            · obtain ⟨q2, hq2, eq, dq⟩ := dg_some eb
              rw [if_pos eb, eq, decide_eq_true (by simp only []; omega)]
              simp only [bastionref01_Decode.j1]
              rw [if_pos trivial, E1.out, E2.out, if_pos (by omega), if_pos (by rw [s3]; omega), h1, ref_Digit_f a k (by omega)]
              simp only [Option.bind_some]
              rw [if_pos (by omega), if_pos (by rw [s3]; omega), h2, ref_Digit_f b k (by omega)]
              simp only [Option.bind_some]
              rw [if_pos ea, if_pos eb, if_pos (by omega), ep, eq, E3.out]
              simp only []
              rw [cat_tab ⟨q1, hq1⟩ ⟨q2, hq2⟩, decL_yes r dp dq]
              have := ih r (p ++ [37, a, b]) (x ++ [(((16 * q1 + q2).toUInt8).toNat : Int)]) k (by simp at hl'; omega) (by omega) (by simp at hx' ⊢; omega) (by simp at hp' ⊢; omega)
              rw [show (p ++ [37, a, b]) ++ r = p ++ 37 :: a :: b :: r by simp, show (((p ++ [37, a, b]).length : Nat) : Int) = (p.length : Int) + 3 by simp] at this
              simp only []
              rw [this]
              simp [ns_cons]
            · rw [if_neg eb, show (decide ((16 : Int) < 16)) = false from rfl, hplain, decL_no _ _ (.inr (dg_none (Bool.eq_false_iff.mpr eb)))]
          · rw [if_neg ea, if_neg (by omega), hplain, decL_no _ _ (.inl (dg_none (Bool.eq_false_iff.mpr ea)))]
      · rw [if_neg (by intro e; apply h37; exact UInt8.toNat_inj.mp (by have : (37 : UInt8).toNat = 37 := rfl; omega)), hplain, decL_cons_ne h37]
theorem ref_Decode_ev (l : List UInt8) (h : l.length ≤ 140737488355327) : Ev (fun k => bastionref01_Decode.f k (B l)) (B (decL l)) :=
  Ev.mk (2 * l.length + 30) fun k hk => by
    unfold bastionref01_Decode.f
    have := ref_Decode_l0 l.length l [] [] k (Nat.le_refl _) hk (by simpa using h) (by simpa using h)
    rw [List.nil_append, List.nil_append, strOf_ns] at this
    exact this
end Go.Proofs.YtbcbmmlpgdndpaaDoor.Q.Pc
