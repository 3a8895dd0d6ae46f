/- The document's address texts, plain: digits, numbers, parts, ends, addresses of version 4. -/
import Derived.Test.YtkabhnbjjnjdhaaDoorSB6
import Derived.Test.YtkabhnbjjnjdhaaDoorSQbastionref07EndsA
import Derived.Test.YtkabhnbjjnjdhaaDoorSQbastionref07V4A
set_option linter.unusedSimpArgs false
set_option linter.unusedVariables false
namespace Go.Proofs.YtkabhnbjjnjdhaaDoor.Q
open Go.RowKit Go.Proofs.YtkabhnbjjnjdhaaDoorW.PrintWords Go.Proofs.YtkabhnbjjnjdhaaDoorW.PrintLast Go.Proofs.YtkabhnbjjnjdhaaDoorW.PrintMore Go.Proofs.YtkabhnbjjnjdhaaDoor.Ad
def dg16 (c : UInt8) : Nat := if dgN c < 16 then dgN c else 99
theorem digit_tab : ∀ c : Fin 256, bastionref07_digit.f 2 (c.val : Int) = some ((dg16 (UInt8.ofNat c.val) : Nat) : Int) := by decide +kernel
theorem digit_f (c : UInt8) (k : Nat) : bastionref07_digit.f (k + 2) (c.toNat : Int) = some ((dg16 c : Nat) : Int) := by
  have h := digit_tab ⟨c.toNat, c.toNat_lt⟩
  simp only [UInt8.ofNat_toNat] at h
  exact at_more (fun k => bastionref07_digit.mono _ k) (by omega) h
theorem dg16_lt {b : Nat} (hb : b ≤ 16) (c : UInt8) : (dg16 c < b ↔ dgN c < b) ∧ (dgN c < b → dg16 c = dgN c) := by
  unfold dg16
  split
  · exact ⟨Iff.rfl, fun _ => rfl⟩
  · exact ⟨⟨fun h => by omega, fun h => by omega⟩, fun h => by omega⟩
theorem bt_drop (l : List UInt8) (i : Nat) (c : UInt8) (r : List UInt8) (h : l.drop i = c :: r) : i < l.length ∧ bt (B l) (i : Int) = (c.toNat : Int) ∧ l.drop (i + 1) = r ∧ l[i]? = some c := by
  have hi : i < l.length := by
    by_cases hi : i < l.length
    · exact hi
    · rw [List.drop_of_length_le (by omega)] at h; cases h
  rw [List.drop_eq_getElem_cons hi] at h
  injection h with h1 h2
  refine ⟨hi, ?_, h2, by rw [List.getElem?_eq_getElem hi, h1]⟩
  rw [B_bt, Int.toNat_natCast, List.getD_eq_getElem?_getD, List.getElem?_eq_getElem hi, h1]; rfl
def numV (l : List UInt8) : Option Nat :=
  if l = [] then none else if 1 < l.length ∧ l.getD 0 0 = 48 then (if l.getD 1 0 = 120 ∨ l.getD 1 0 = 88 then (if allD 16 (l.drop 2) = true then some (val 16 (l.drop 2)) else none) else (if allD 8 (l.drop 1) = true then some (val 8 (l.drop 1)) else none)) else (if allD 10 l = true then some (val 10 l) else none)
theorem numL_V (l : List UInt8) : numL l = (numV l).map capN := by
  unfold numL numV numB
  split
  · rfl
  · split
    · split
      · split <;> rfl
      · split <;> rfl
    · split <;> rfl
def grt (v : Nat) : Int := if (v : Int) > 1099511627776 then 1099511627776 else (v : Int)
def res (o : Option Nat) : Int × Bool := match o with
  | some v => (grt v, true)
  | none => (0, false)
theorem grt_of {v : Nat} (h : v ≤ 1099511627776) : grt v = (v : Int) := if_neg (by omega)
theorem grt_up {v : Nat} (h : 1099511627776 ≤ v) : grt v = 1099511627776 := by
  unfold grt
  split
  · rfl
  · omega
theorem number_l0 (b : Nat) (hb2 : 2 ≤ b) (hb : b ≤ 16) (l : List UInt8) (hl : l.length ≤ 1000000000) : ∀ (r : List UInt8) (i acc k : Nat), l.drop i = r → acc ≤ 1099511627776 → i ≤ l.length → bastionref07_number.l0 (k + r.length + 3) (B l) (b : Int) (acc : Int) (i : Int) = some (res (if allD b r = true then some (valF b acc r) else none))
  | [], i, acc, k, h, ha, hi => by
    have hlen : l.length ≤ i := by
      have := congrArg List.length h
      rw [List.length_drop] at this
      simp at this
      omega
    unfold bastionref07_number.l0
    rw [B_size, if_neg (by omega), if_pos (by rfl)]
    show some ((acc : Int), true) = some (grt acc, true)
    rw [grt_of ha]
  | c :: r, i, acc, k, h, ha, hi => by
    obtain ⟨hil, hbt, hr, _⟩ := bt_drop l i c r h
    obtain ⟨d1, d2⟩ := dg16_lt hb c
    rw [show k + (c :: r).length + 3 = (k + r.length + 3) + 1 from by rw [List.length_cons]; omega]
    unfold bastionref07_number.l0
    rw [B_size, if_pos (by omega), if_pos (by omega), hbt, digit_f c (k + r.length + 1), Option.bind_some]
    by_cases hd : dgN c < b
    · have hd' : dg16 c < b := d1.2 hd
      have hle : acc * b ≤ 1099511627776 * 16 := Nat.mul_le_mul ha hb
      have hw : IntKind.u64.wrap (IntKind.u64.wrap ((acc : Int) * (b : Int)) + ((dg16 c : Nat) : Int)) = ((acc * b + dgN c : Nat) : Int) := by
        rw [d2 hd, show (acc : Int) * (b : Int) = ((acc * b : Nat) : Int) from by simp]
        generalize acc * b = ab at hle
        rw [IntKind.wrap_u64, IntKind.wrap_u64]
        omega
      have hw1 : wrap64 ((i : Int) + 1) = ((i + 1 : Nat) : Int) := by rw [wrap64_of (by omega) (by omega)]; omega
      have hall : allD b (c :: r) = allD b r := by unfold allD; rw [List.all_cons, decide_eq_true hd, Bool.true_and]
      have hval : valF b acc (c :: r) = valF b (acc * b + dgN c) r := rfl
      have hlt : ¬ ((dg16 c : Nat) : Int) ≥ (b : Int) := by omega
      have hi1 : i + 1 ≤ l.length := hil
      rw [if_neg hlt, hw, hw1, hall, hval]
      clear hw hw1 hall hval hbt hlt hle
      generalize acc * b + dgN c = v
      by_cases hg : v ≤ 1099511627776
      · rw [if_neg (by omega)]
        exact number_l0 b hb2 hb l hl r (i + 1) v k hr hg hi1
      · rw [if_pos (by omega)]
        obtain ⟨G, hG⟩ : ∃ G : Nat, G = 1099511627776 := ⟨_, rfl⟩
        have hGz : (1099511627776 : Int) = (G : Int) := by omega
        have ih := number_l0 b hb2 hb l hl r (i + 1) G k hr (by omega) hi1
        rw [← hGz] at ih
        refine ih.trans ?_
        have g1 := valF_ge (b := b) (by omega) r v
        have g2 := valF_ge (b := b) (by omega) r G
        split
        · show some (grt _, true) = some (grt _, true)
          rw [grt_up (by omega), grt_up (by omega)]
        · rfl
    · have hd' : ¬ dg16 c < b := fun h => hd (d1.1 h)
      have hall : allD b (c :: r) = false := by unfold allD; rw [List.all_cons, decide_eq_false hd, Bool.false_and]
      rw [if_pos (by omega), hall]
      rfl
theorem number_f (l : List UInt8) (hl : l.length ≤ 1000000000) (k : Nat) : bastionref07_number.f (k + l.length + 5) (B l) = some (res (numV l)) := by
  have go : ∀ (b : Nat) (hb2 : 2 ≤ b) (hb : b ≤ 16) (m : List UInt8) (hm : m.length ≤ l.length), bastionref07_number.j1 (k + l.length + 4) (B m) (b : Int) = some (res (if allD b m = true then some (val b m) else none)) := by
    intro b hb2 hb m hm
    unfold bastionref07_number.j1
    have := number_l0 b hb2 hb m (by omega) m 0 0 (k + (l.length - m.length)) rfl (by omega) (Nat.zero_le _)
    rw [show k + (l.length - m.length) + m.length + 3 = k + l.length + 3 from by omega] at this
    exact this
  have hext : ∀ m : List UInt8, ∀ j : Nat, (B m).extract j (B m).size = B (m.drop j) := fun m j => by
    rw [← B_of ((B m).extract j (B m).size), Lib.extract_data, B_data, B_size, List.take_of_length_le (by rw [List.length_drop]; omega)]
  unfold bastionref07_number.f
  rw [B_toList]
  match l with
  | [] => rw [if_pos rfl]; rfl
  | [c] =>
    rw [if_neg (by simp), B_size, if_neg (by simp)]
    rw [show k + [c].length + 5 = (k + 5) + 1 from rfl]
    rw [bastionref07_number.j0, if_neg (by decide), B_size, if_neg (by simp)]
    refine (go 10 (by omega) (by omega) [c] (by simp)).trans ?_
    unfold numV
    rw [if_neg (show ¬ [c] = [] from by simp), if_neg (show ¬ (1 < [c].length ∧ [c].getD 0 0 = 48) from fun h => absurd h.1 (by simp))]
  | c :: d :: r =>
    have b0 : bt (B (c :: d :: r)) 0 = (c.toNat : Int) := B_bt _ 0
    have b1 : bt (B (c :: d :: r)) 1 = (d.toNat : Int) := B_bt _ 1
    have hc : ((c.toNat : Int) = 48) ↔ c = 48 := ⟨fun h => UInt8.toNat_inj.1 (by show c.toNat = 48; omega), fun h => by rw [h]; rfl⟩
    have hd1 : ((d.toNat : Int) = 120) ↔ d = 120 := ⟨fun h => UInt8.toNat_inj.1 (by show d.toNat = 120; omega), fun h => by rw [h]; rfl⟩
    have hd2 : ((d.toNat : Int) = 88) ↔ d = 88 := ⟨fun h => UInt8.toNat_inj.1 (by show d.toNat = 88; omega), fun h => by rw [h]; rfl⟩
    have hj0 : ∀ x : Bool, bastionref07_number.j0 (k + (c :: d :: r).length + 5) (B (c :: d :: r)) 10 x = some (res (if x = true then (if allD 16 r = true then some (val 16 r) else none) else if c = 48 then (if allD 8 (d :: r) = true then some (val 8 (d :: r)) else none) else (if allD 10 (c :: d :: r) = true then some (val 10 (c :: d :: r)) else none))) := by
      intro x
      rw [show k + (c :: d :: r).length + 5 = (k + (c :: d :: r).length + 4) + 1 from rfl]
      rw [bastionref07_number.j0]
      have e2 := hext (c :: d :: r) 2
      have e1 := hext (c :: d :: r) 1
      cases x with
      | true =>
        rw [if_pos rfl, if_pos rfl, if_pos (by rw [B_size]; simp; omega), e2]
        exact go 16 (by omega) (by omega) r (by simp; omega)
      | false =>
        rw [if_neg (show ¬ (false = true) from by decide), if_neg (show ¬ (false = true) from by decide), if_pos (by rw [B_size]; simp; omega), if_pos (by rw [B_size]; simp; omega), b0]
        by_cases h48 : c = 48
        · rw [if_pos (hc.2 h48), if_pos h48, if_pos (by rw [B_size]; simp; omega), e1]
          exact go 8 (by omega) (by omega) (d :: r) (by simp)
        · rw [if_neg (fun h => h48 (hc.1 h)), if_neg h48]
          exact go 10 (by omega) (by omega) _ (Nat.le_refl _)
    have hz : ((B (c :: d :: r)).size : Int) ≥ 2 := by rw [B_size]; simp; omega
    rw [if_neg (show ¬ (c :: d :: r = []) from by simp), if_pos hz, if_pos (show (0 : Int) < ((B (c :: d :: r)).size : Int) from by omega), b0, b1]
    unfold numV
    rw [if_neg (show ¬ (c :: d :: r = []) from by simp)]
    by_cases h48 : c = 48
    · rw [if_pos (hc.2 h48), if_pos (show (1 : Int) < ((B (c :: d :: r)).size : Int) from by omega), if_pos (show 1 < (c :: d :: r).length ∧ (c :: d :: r).getD 0 0 = 48 from ⟨by simp, h48⟩)]
      by_cases h120 : d = 120
      · rw [if_pos (hd1.2 h120), hj0, if_pos rfl, if_pos (show (c :: d :: r).getD 1 0 = 120 ∨ _ from .inl h120)]
        rfl
      · rw [if_neg (fun h => h120 (hd1.1 h)), hj0]
        by_cases h88 : d = 88
        · rw [if_pos (by rw [hd2.2 h88]; rfl), if_pos (show (c :: d :: r).getD 1 0 = 120 ∨ (c :: d :: r).getD 1 0 = 88 from .inr h88)]
          rfl
        · rw [if_neg (by rw [beq_iff_eq]; exact fun h => h88 (hd2.1 h)), if_pos h48, if_neg (show ¬ ((c :: d :: r).getD 1 0 = 120 ∨ (c :: d :: r).getD 1 0 = 88) from fun h => h.elim h120 h88)]
          rfl
    · rw [if_neg (fun h => h48 (hc.1 h)), hj0, if_neg (by decide), if_neg h48, if_neg (show ¬ (1 < (c :: d :: r).length ∧ (c :: d :: r).getD 0 0 = 48) from fun h => h48 h.2)]
theorem parts_size (c : UInt8) : ∀ l : List UInt8, (parts c l).length ≤ l.length + 1 ∧ ∀ x ∈ parts c l, x.length ≤ l.length
  | [] => ⟨Nat.le_refl _, fun x hx => by simp [parts] at hx; rw [hx]; exact Nat.le_refl _⟩
  | b :: r => by
    obtain ⟨h1, h2⟩ := parts_size c r
    unfold parts
    by_cases hb : b = c
    · rw [if_pos hb]
      refine ⟨by simp; omega, fun x hx => ?_⟩
      rcases List.mem_cons.1 hx with rfl | hx
      · exact Nat.zero_le _
      · have := h2 x hx; simp; omega
    · rw [if_neg hb]
      cases hp : parts c r with
      | nil => exact absurd hp (parts_ne c r)
      | cons q qs =>
        rw [hp] at h1 h2
        refine ⟨by simp at h1 ⊢; omega, fun x hx => ?_⟩
        rcases List.mem_cons.1 hx with rfl | hx
        · have := h2 q (by simp); simp; omega
        · have := h2 x (by simp [hx]); simp; omega
/-- one more byte of the text: the last word is longer by it -/
theorem words_set (l : List UInt8) (hl : l.length ≤ 1000000000) (i : Nat) (c : UInt8) (r : List UInt8) (h : l.drop i = c :: r) (ps : List (List UInt8)) (p : List UInt8) (hps : ps.length ≤ 1000000001) :
    wrap64 ((((ps ++ [p]).map B).length : Int) - 1) = (ps.length : Int) ∧ rdOf ByteArray.empty ((ps ++ [p]).map B) (ps.length : Int) = B p ∧ (B l).extract (i : Int).toNat (wrap64 ((i : Int) + 1)).toNat = B [c] ∧ ((ps ++ [p]).map B).set ((ps.length : Int)).toNat (B p ++ B [c]) = (ps ++ [p ++ [c]]).map B ∧ wrap64 ((i : Int) + 1) = ((i + 1 : Nat) : Int) := by
  obtain ⟨hil, _, _, hc⟩ := bt_drop l i c r h
  have hw1 : wrap64 ((i : Int) + 1) = ((i + 1 : Nat) : Int) := by rw [wrap64_of (by omega) (by omega)]; omega
  refine ⟨?_, ?_, ?_, ?_, hw1⟩
  · have : ((ps ++ [p]).map B).length = ps.length + 1 := by simp
    rw [this, wrap64_of (by omega) (by omega)]; omega
  · unfold rdOf
    rw [Int.toNat_natCast]
    simp
  · rw [hw1, Int.toNat_natCast, Int.toNat_natCast, ← B_of ((B l).extract i (i + 1)), Lib.extract_data, B_data, h, show i + 1 - i = 1 from by omega]
    rfl
  · rw [Int.toNat_natCast, B_append]
    simp
theorem concat_inj {α : Type} {a b : List α} {x y : α} (h : a ++ [x] = b ++ [y]) : a = b ∧ x = y := by
  have := List.append_inj' h rfl
  exact ⟨this.1, by simpa using this.2⟩
/-- the words of one more byte -/
theorem words_next (s : UInt8) (l : List UInt8) (i : Nat) (c : UInt8) (r : List UInt8) (h : l.drop i = c :: r) (ps : List (List UInt8)) (p : List UInt8) (hp : parts s (l.take i) = ps ++ [p]) :
    ps.length ≤ l.length ∧ p.length ≤ l.length ∧ parts s (l.take (i + 1)) = if c = s then ps ++ [p] ++ [[]] else ps ++ [p ++ [c]] := by
  obtain ⟨hil, _, _, hc⟩ := bt_drop l i c r h
  have hz := parts_size s (l.take i)
  rw [hp, List.length_take] at hz
  have htk : l.take (i + 1) = l.take i ++ [c] := by
    obtain ⟨hi', hv⟩ := List.getElem?_eq_some_iff.1 hc
    rw [List.take_succ_eq_append_getElem hi', hv]
  refine ⟨by have := hz.1; simp at this; omega, by have := hz.2 p (by simp); omega, ?_⟩
  rw [htk]
  by_cases hcs : c = s
  · rw [if_pos hcs, hcs, parts_snoc_sep, hp]
  · rw [if_neg hcs]
    obtain ⟨ps', p', e1, e2⟩ := parts_snoc (c := s) (x := c) hcs (l.take i)
    rw [hp] at e1
    obtain ⟨rfl, rfl⟩ := concat_inj e1
    exact e2
theorem parts_l0 (l : List UInt8) (hl : l.length ≤ 1000000000) : ∀ (r : List UInt8) (i k : Nat) (ps : List (List UInt8)) (p : List UInt8), l.drop i = r → i ≤ l.length → parts 46 (l.take i) = ps ++ [p] → bastionref07_parts.l0 (k + r.length + 1) (B l) ((ps ++ [p]).map B) (i : Int) = some ((partsD l).map B)
  | [], i, k, ps, p, h, hi, hp => by
    have hlen : l.length ≤ i := by
      have := congrArg List.length h
      rw [List.length_drop] at this
      simp at this
      omega
    have hz := (parts_size 46 (l.take i)).1
    rw [hp, List.length_take] at hz
    rw [List.take_of_length_le hlen] at hp
    have hpl : ps.length ≤ l.length := by simp at hz; omega
    have hx : ((ps ++ [p]).map B).length = ps.length + 1 := by simp
    have hw : wrap64 (((ps.length + 1 : Nat) : Int) - 1) = (ps.length : Int) := by rw [wrap64_of (by omega) (by omega)]; omega
    have hrd : rdOf ByteArray.empty ((ps ++ [p]).map B) (ps.length : Int) = B p := by unfold rdOf; rw [Int.toNat_natCast]; simp
    unfold bastionref07_parts.l0 partsD cutLast
    rw [hp, B_size, if_neg (by omega), hx, hw, hrd, B_toList]
    by_cases h1 : 0 < ps.length
    · rw [if_pos (by omega), if_pos (by omega), if_pos (by omega)]
      by_cases h2 : p = []
      · rw [if_pos h2, if_pos (by omega), if_pos ⟨by rw [List.length_append, List.length_singleton]; omega, by rw [List.getLast?_concat, h2]⟩, Int.toNat_natCast, List.dropLast_concat]
        simp
      · rw [if_neg h2, if_neg (fun h => h2 (by have := h.2; rw [List.getLast?_concat] at this; exact Option.some.inj this))]
    · rw [if_neg (by omega), if_neg (fun h => h1 (by have := h.1; rw [List.length_append, List.length_singleton] at this; omega))]
  | c :: r, i, k, ps, p, h, hi, hp => by
    obtain ⟨hil, hbt, hr, _⟩ := bt_drop l i c r h
    obtain ⟨n1, n2, n3⟩ := words_next 46 l i c r h ps p hp
    obtain ⟨s1, s2, s3, s4, s5⟩ := words_set l hl i c r h ps p (by omega)
    rw [show k + (c :: r).length + 1 = (k + r.length + 1) + 1 from by rw [List.length_cons]; omega]
    have hx : ((ps ++ [p]).map B).length = ps.length + 1 := by simp
    have h46 : ((c.toNat : Int) = 46) ↔ c = 46 := ⟨fun h => UInt8.toNat_inj.1 (by show c.toNat = 46; omega), fun h => by rw [h]; rfl⟩
    unfold bastionref07_parts.l0
    rw [B_size, if_pos (by omega), if_pos (by omega), hbt]
    by_cases hc : c = 46
    · rw [if_pos hc] at n3
      have := parts_l0 l hl r (i + 1) k (ps ++ [p]) [] hr hil n3
      rw [if_pos (h46.2 hc), if_pos (by rw [hx]; omega), s5]
      rw [List.map_append] at this
      exact this
    · rw [if_neg hc] at n3
      have := parts_l0 l hl r (i + 1) k ps (p ++ [c]) hr hil n3
      rw [if_neg (fun h => hc (h46.1 h)), s1, s2, s3, s4, if_pos (by omega), if_pos (by rw [hx]; omega), s5, if_pos (by omega), if_pos (by omega), if_pos (by rw [B_size, B_size]; simp; omega)]
      exact this
theorem refParts_f (l : List UInt8) (hl : l.length ≤ 1000000000) (K : Nat) (hK : l.length + 1 ≤ K) : bastionref07_parts.f K (B l) = some ((partsD l).map B) := by
  obtain ⟨k, rfl⟩ : ∃ k, K = k + l.length + 1 := ⟨K - l.length - 1, by omega⟩
  exact parts_l0 l hl l 0 k [] [] rfl (Nat.zero_le _) rfl
theorem number_F (l : List UInt8) (hl : l.length ≤ 1000000000) (K : Nat) (hK : l.length + 5 ≤ K) : bastionref07_number.f K (B l) = some (res (numV l)) := by
  obtain ⟨k, rfl⟩ : ∃ k, K = k + l.length + 5 := ⟨K - l.length - 5, by omega⟩
  exact number_f l hl k
theorem partsD_size (l : List UInt8) : (partsD l).length ≤ l.length + 1 ∧ ∀ x ∈ partsD l, x.length ≤ l.length := by
  obtain ⟨h1, h2⟩ := parts_size 46 l
  unfold partsD cutLast
  split
  · exact ⟨by rw [List.length_dropLast]; omega, fun x hx => h2 x (List.dropLast_subset _ hx)⟩
  · exact ⟨h1, h2⟩
theorem dgN10 (c : UInt8) : dgN c < 10 ↔ (48 ≤ c.toNat ∧ c.toNat ≤ 57) := by
  unfold dgN
  split
  · omega
  · split
    · omega
    · split <;> omega
theorem res2 (o : Option Nat) : (res o).2 = o.isSome := by cases o <;> rfl
theorem ends_l0 (l : List UInt8) (hl : l.length ≤ 1000000000) : ∀ (r : List UInt8) (i k : Nat), l.drop i = r → i ≤ l.length → bastionref07_Ends.l0 (k + l.length + r.length + 6) (B l) (i : Int) = some (if allD 10 r = true then true else (numV l).isSome)
  | [], i, k, h, hi => by
    have hlen : l.length ≤ i := by
      have := congrArg List.length h
      rw [List.length_drop] at this
      simp at this
      omega
    unfold bastionref07_Ends.l0
    rw [B_size, if_neg (by omega), if_pos (by rfl)]
  | c :: r, i, k, h, hi => by
    obtain ⟨hil, hbt, hr, _⟩ := bt_drop l i c r h
    have hw1 : wrap64 ((i : Int) + 1) = ((i + 1 : Nat) : Int) := by rw [wrap64_of (by omega) (by omega)]; omega
    have hnum := number_F l hl (k + l.length + r.length + 6) (by omega)
    have ih := ends_l0 l hl r (i + 1) k hr hil
    have hd := dgN10 c
    rw [show k + l.length + (c :: r).length + 6 = (k + l.length + r.length + 6) + 1 from by rw [List.length_cons]; omega]
    unfold bastionref07_Ends.l0
    rw [B_size, if_pos (by omega), if_pos (by omega), hbt, hnum, hw1, ih, Option.bind_some, res2]
    unfold allD at ih ⊢
    rw [List.all_cons]
    by_cases h1 : c.toNat < 48
    · rw [if_pos (by omega), decide_eq_false (by omega), Bool.false_and, if_neg (by decide)]
    · rw [if_neg (by omega)]
      by_cases h2 : 57 < c.toNat
      · rw [if_pos (by omega), decide_eq_false (by omega), Bool.false_and, if_neg (by decide)]
      · rw [if_neg (by omega), decide_eq_true (by omega), Bool.true_and]
theorem refEnds_f (l : List UInt8) (hl : l.length ≤ 1000000000) (K : Nat) (hK : 2 * l.length + 10 ≤ K) : bastionref07_Ends.f K (B l) = some (endsL l) := by
  unfold bastionref07_Ends.f
  rw [refParts_f l hl K (by omega), Option.bind_some]
  obtain ⟨z1, z2⟩ := partsD_size l
  have e := ends_last l
  obtain ⟨ps, p, hp⟩ : ∃ ps p, partsD l = ps ++ [p] := ⟨_, _, (List.dropLast_concat_getLast (partsD_ne l)).symm⟩
  have hlast : (partsD l).getLast (partsD_ne l) = p := by
    have : ∀ (h : partsD l ≠ []), (partsD l).getLast h = p := by rw [hp]; intro h; simp
    exact this _
  rw [hlast] at e
  have hpl : p.length ≤ l.length := z2 p (by rw [hp]; simp)
  have hpsl : ps.length ≤ l.length := by rw [hp] at z1; simp at z1; omega
  have hx : ((ps ++ [p]).map B).length = ps.length + 1 := by simp
  have hw : wrap64 (((ps.length + 1 : Nat) : Int) - 1) = (ps.length : Int) := by rw [wrap64_of (by omega) (by omega)]; omega
  have hrd : rdOf ByteArray.empty ((ps ++ [p]).map B) (ps.length : Int) = B p := by unfold rdOf; rw [Int.toNat_natCast]; simp
  have hl0 := ends_l0 p (by omega) p 0 (K - 2 * p.length - 6) rfl (Nat.zero_le _)
  rw [show K - 2 * p.length - 6 + p.length + p.length + 6 = K from by omega] at hl0
  rw [hp, hx, hw, hrd, if_pos (by omega), if_pos (by omega), B_toList, e, numL_V]
  by_cases h0 : p = []
  · rw [if_pos h0, h0]; rfl
  · rw [if_neg h0]
    refine hl0.trans ?_
    have h1 : p.isEmpty = false := List.isEmpty_eq_false_iff.2 h0
    rw [h1, Option.isSome_map]
    cases allD 10 p <;> cases (numV p).isSome <;> rfl
theorem room_of (n : Nat) (h1 : 1 ≤ n) (h4 : n ≤ 4) : shl .u64 1 (IntKind.u64.wrap (wrap64 (8 * (wrap64 (5 - (n : Int)))))) = ((2 ^ (8 * (5 - n)) : Nat) : Int) ∧ 0 ≤ IntKind.u64.wrap (wrap64 (8 * (wrap64 (5 - (n : Int))))) := by
  have : n = 1 ∨ n = 2 ∨ n = 3 ∨ n = 4 := by omega
  rcases this with rfl | rfl | rfl | rfl <;> exact ⟨by decide +kernel, by decide +kernel⟩
theorem shift_of (i : Nat) (h : i ≤ 3) (m : Nat) (hm : m ≤ 255) : shl .u64 (m : Int) (IntKind.u64.wrap (wrap64 (8 * (wrap64 (3 - (i : Int)))))) = ((m * 2 ^ (8 * (3 - i)) : Nat) : Int) ∧ 0 ≤ IntKind.u64.wrap (wrap64 (8 * (wrap64 (3 - (i : Int))))) := by
  have hsh : ∀ s : Nat, s ≤ 24 → shl .u64 (m : Int) (s : Int) = ((m * 2 ^ s : Nat) : Int) := fun s hs => by
    unfold shl
    rw [Int.toNat_natCast, show IntKind.u64.bits = 64 from rfl, Nat.min_eq_left (by omega)]
    have : m * 2 ^ s ≤ 255 * 2 ^ 24 := Nat.mul_le_mul hm (Nat.pow_le_pow_right (by decide) hs)
    rw [show (m : Int) * 2 ^ s = ((m * 2 ^ s : Nat) : Int) from by simp]
    generalize m * 2 ^ s = z at this
    rw [IntKind.wrap_u64]
    omega
  have e : IntKind.u64.wrap (wrap64 (8 * (wrap64 (3 - (i : Int))))) = ((8 * (3 - i) : Nat) : Int) := by
    rw [wrap64_of (x := 3 - (i : Int)) (by omega) (by omega), wrap64_of (by omega) (by omega), IntKind.wrap_u64]; omega
  rw [e]
  exact ⟨hsh _ (by omega), by omega⟩
theorem cap_grt (v R : Nat) (hR : R ≤ 4294967296) : (capN v < R ↔ v < R) ∧ (grt v ≥ (R : Int) ↔ ¬ v < R) ∧ (v < R → capN v = v ∧ grt v = (v : Int)) := by
  unfold capN grt
  refine ⟨?_, ?_, fun h => ⟨if_pos (by omega), if_neg (by omega)⟩⟩
  · split <;> omega
  · split <;> omega
theorem v4_l0 (ps : List (List UInt8)) (hn : ps.length ≤ 4) (M : Nat) (hM : M ≤ 1000000000) (hps : ∀ p ∈ ps, p.length ≤ M) : ∀ (r : List (List UInt8)) (i s k : Nat), ps.drop i = r → i ≤ ps.length → s < 4294967296 → (r ≠ [] → s % 2 ^ (8 * (4 - i)) = 0) → bastionref07_V4.l0 (k + r.length + M + 6) (ps.map B) (s : Int) (ps.map B) (ps.length : Int) (i : Int) = some (v4n (v4F ps.length i s r), v4e (v4F ps.length i s r))
  | [], i, s, k, h, hi, hs, _ => by
    have hlen : ps.length ≤ i := by
      have := congrArg List.length h
      rw [List.length_drop] at this
      simp at this
      omega
    have hsm : (s : Int) % 4294967296 = s := by omega
    unfold bastionref07_V4.l0
    rw [if_neg (by omega), hsm]
    unfold v4F
    rfl
  | p :: r, i, s, k, h, hi, hs, hs0' => by
    have HS0 := Lib.hid (hs0' (by simp))
    clear hs0'
    have hil : i < ps.length := by
      by_cases hil : i < ps.length
      · exact hil
      · rw [List.drop_of_length_le (by omega)] at h; cases h
    have hd := h
    rw [List.drop_eq_getElem_cons hil] at hd
    injection hd with hd1 hd2
    have hrd : rdOf ByteArray.empty (ps.map B) (i : Int) = B p := by
      unfold rdOf
      rw [Int.toNat_natCast, List.getD_eq_getElem?_getD, List.getElem?_map, List.getElem?_eq_getElem hil, hd1]; rfl
    have hpM : p.length ≤ M := hps p (by rw [← hd1]; exact List.getElem_mem hil)
    have hnum := number_F p (by omega) (k + r.length + M + 6) (by omega)
    have hml : (ps.map B).length = ps.length := List.length_map _
    have hw : wrap64 ((ps.length : Int) - 1) = ((ps.length - 1 : Nat) : Int) := by rw [wrap64_of (by omega) (by omega)]; omega
    have hw1 : wrap64 ((i : Int) + 1) = ((i + 1 : Nat) : Int) := by rw [wrap64_of (by omega) (by omega)]; omega
    have hrl : r.length = ps.length - (i + 1) := by rw [← hd2, List.length_drop]
    have hn1 : 1 ≤ ps.length := by omega
    rw [show k + (p :: r).length + M + 6 = (k + r.length + M + 6) + 1 from by rw [List.length_cons]; omega]
    unfold bastionref07_V4.l0
    rw [if_pos (by omega), if_pos (by omega), hml, if_pos (by omega), hrd, hnum, Option.bind_some, hw]
    unfold v4F
    rw [numL_V]
    by_cases hlast : r = []
    · have hi1 : i = ps.length - 1 := by rw [hlast] at hrl; simp at hrl; omega
      rw [if_pos (by omega), if_pos (room_of ps.length hn1 hn).2, (room_of ps.length hn1 hn).1]
      clear hnum hw
      cases hv : numV p with
      | none => rfl
      | some v =>
        have hR : 2 ^ (8 * (5 - ps.length)) ≤ 4294967296 := Nat.le_trans (Nat.pow_le_pow_right (by decide) (show 8 * (5 - ps.length) ≤ 32 by omega)) (by decide)
        obtain ⟨g1, g2, g3⟩ := cap_grt v _ hR
        have hdiv : capN v / 2 ^ (8 * (5 - ps.length)) = 0 ↔ v < 2 ^ (8 * (5 - ps.length)) := by
          rw [← g1]
          exact Nat.div_eq_zero_iff_lt (Nat.pow_pos (by decide))
        rw [show Option.map capN (some v) = some (capN v) from rfl]
        dsimp only
        rw [if_pos (show (res (some v)).2 = true from rfl), if_pos (show r.isEmpty = true from by rw [hlast]; rfl)]
        by_cases hlt : v < 2 ^ (8 * (5 - ps.length))
        · obtain ⟨c1, c2⟩ := g3 hlt
          rw [if_neg (show ¬ (res (some v)).1 ≥ _ from fun h => (g2.1 h) hlt), if_pos (hdiv.2 hlt), c1, show (res (some v)).1 = (v : Int) from c2, hw1]
          have hsum : s + v < 4294967296 := by
            have hs0' := HS0.out
            rw [show 4 - i = 5 - ps.length from by omega] at hs0'
            have hc : ps.length = 1 ∨ ps.length = 2 ∨ ps.length = 3 ∨ ps.length = 4 := by omega
            rcases hc with hc | hc | hc | hc <;> rw [hc] at hs0' hlt <;> simp at hs0' hlt <;> omega
          have hu : IntKind.u64.wrap ((s : Int) + (v : Int)) = ((s + v : Nat) : Int) := by rw [IntKind.wrap_u64]; omega
          rw [hu]
          have ih := v4_l0 ps hn M hM hps [] (i + 1) (s + v) (k + r.length) (by rw [hd2, hlast]) (by omega) hsum (fun h => absurd rfl h)
          rw [List.length_nil] at ih
          exact ih
        · rw [if_pos (show (res (some v)).1 ≥ _ from g2.2 hlt), if_neg (fun h => hlt (hdiv.1 h))]
          rfl
    · have hrl1 : 1 ≤ r.length := List.length_pos_iff.2 hlast
      have hi3 : i ≤ 3 := by omega
      rw [if_neg (by omega)]
      cases hv : numV p with
      | none => rfl
      | some v =>
        obtain ⟨g1, g2, g3⟩ := cap_grt v 256 (by decide)
        rw [show Option.map capN (some v) = some (capN v) from rfl]
        dsimp only
        rw [if_pos (show (res (some v)).2 = true from rfl), if_neg (show ¬ r.isEmpty = true from by rw [List.isEmpty_iff]; exact hlast)]
        by_cases hlt : v < 256
        · obtain ⟨c1, c2⟩ := g3 hlt
          have hv255 : v ≤ 255 := by omega
          rw [if_neg (show ¬ (res (some v)).1 ≥ 256 from fun h => (g2.1 h) hlt), c1, if_pos hv255, show (res (some v)).1 = (v : Int) from c2, (shift_of i hi3 v hv255).1, if_pos (shift_of i hi3 v hv255).2, hw1]
          clear hw hw1 hnum
          have hsum : s + v * 2 ^ (8 * (3 - i)) < 4294967296 ∧ (s + v * 2 ^ (8 * (3 - i))) % 2 ^ (8 * (4 - (i + 1))) = 0 := by
            have hc : i = 0 ∨ i = 1 ∨ i = 2 ∨ i = 3 := by omega
            have hs0 := HS0.out
            rcases hc with hc | hc | hc | hc <;> subst hc <;> simp at hs0 ⊢ <;> omega
          have hu : IntKind.u64.wrap ((s : Int) + ((v * 2 ^ (8 * (3 - i)) : Nat) : Int)) = ((s + v * 2 ^ (8 * (3 - i)) : Nat) : Int) := by
            have := hsum.1
            generalize v * 2 ^ (8 * (3 - i)) = z at this
            rw [IntKind.wrap_u64]; omega
          rw [hu]
          exact v4_l0 ps hn M hM hps r (i + 1) _ k hd2 (by omega) hsum.1 (fun _ => hsum.2)
        · rw [if_pos (show (res (some v)).1 ≥ 256 from g2.2 hlt), if_neg (show ¬ capN v ≤ 255 from fun h => hlt (g1.1 (by omega)))]
          rfl
theorem refV4_f (l : List UInt8) (hl : l.length ≤ 1000000000) (K : Nat) (hK : l.length + 20 ≤ K) : bastionref07_V4.f K (B l) = some (v4n (v4L l), v4e (v4L l)) := by
  unfold bastionref07_V4.f v4L
  rw [refParts_f l hl K (by omega), Option.bind_some, List.length_map]
  obtain ⟨z1, z2⟩ := partsD_size l
  by_cases h4 : (partsD l).length ≤ 4
  · rw [if_neg (by omega), if_pos h4]
    have := v4_l0 (partsD l) h4 l.length hl z2 (partsD l) 0 0 (K - (partsD l).length - l.length - 6) rfl (Nat.zero_le _) (by omega) (fun _ => Nat.zero_mod _)
    rw [show K - (partsD l).length - l.length - 6 + (partsD l).length + l.length + 6 = K from by omega] at this
    exact this
  · rw [if_pos (by omega), if_neg h4]
    rfl
end Go.Proofs.YtkabhnbjjnjdhaaDoor.Q
