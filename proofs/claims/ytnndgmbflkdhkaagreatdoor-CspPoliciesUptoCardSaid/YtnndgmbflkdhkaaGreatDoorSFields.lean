/- What stands between blanks, plain: the library's pieces are the bytes' own. -/
import Derived.Test.YtnndgmbflkdhkaaGreatDoorSWords
import Derived.Test.YtnndgmbflkdhkaaGreatDoorSB5
import Derived.Lib.FieldsP
import Derived.Lib.TrimUEq
set_option linter.unusedSimpArgs false
set_option linter.unusedVariables false
namespace Go.Proofs.YtnndgmbflkdhkaaGreatDoor.Q
open Go.RowKit Go.Proofs.YtnndgmbflkdhkaaGreatDoorW.PrintWords Go.Proofs.YtnndgmbflkdhkaaGreatDoorW.PrintLast Go.Proofs.YtnndgmbflkdhkaaGreatDoorW.PrintMore Go.Proofs.YtnndgmbflkdhkaaGreatDoor.P1
def bl (c : UInt8) : Bool := c == 9 || c == 10 || c == 12 || c == 13 || c == 32
theorem bl_N (c : UInt8) : blankN c.toNat = bl c := all_c (p := fun c => blankN c.toNat = bl c) (by decide +kernel) c
def wordsGo : List UInt8 → List UInt8 → List (List UInt8)
  | cur, [] => if cur = [] then [] else [cur]
  | cur, b :: r => if bl b then (if cur = [] then wordsGo [] r else cur :: wordsGo [] r) else wordsGo (cur ++ [b]) r
/-- what stands between blanks -/
def wordsL (l : List UInt8) : List (List UInt8) := wordsGo [] l
theorem wordsGo_run : ∀ (n : Nat) (l cur : List UInt8), n ≤ l.length → (∀ c ∈ l.take n, bl c = false) → wordsGo cur l = wordsGo (cur ++ l.take n) (l.drop n)
  | 0, l, cur, _, _ => by simp
  | n + 1, [], cur, h, _ => by simp at h
  | n + 1, b :: r, cur, h, hb => by
    have h0 : bl b = false := hb b (by simp)
    conv => lhs; unfold wordsGo
    rw [h0]
    simp only [Bool.false_eq_true, if_false]
    rw [wordsGo_run n r (cur ++ [b]) (by simpa using h) (fun c hc => hb c (by simp [hc]))]
    simp
theorem blank_not (r : Nat) (h : 128 ≤ r) : blankN r = false := by unfold blankN; rw [decide_eq_false (by omega)]; rfl
theorem spansP_eq (s : ByteArray) : ∀ (f pos : Nat) (st : Option Nat) (acc : List (Nat × Nat)), s.size ≤ pos + f → pos ≤ s.size → (∀ a, st = some a → a < pos) →
    acc.map (fun p => Lib.pieceU s.data.toList p.1 p.2) ++ wordsGo (Lib.openPiece s.data.toList st pos) (s.data.toList.drop pos) = (Lib.closeSpans s (Lib.spansFromP blankN s f pos st acc)).map (fun p => Lib.pieceU s.data.toList p.1 p.2)
  | 0, pos, st, acc, h, hp, hst => by
    obtain rfl : pos = s.size := by omega
    have hd : s.data.toList.drop s.size = [] := List.drop_eq_nil_of_le (by rw [Array.length_toList]; exact Nat.le_refl _)
    rw [hd]
    cases st with
    | none => simp [Lib.spansFromP, Lib.closeSpans, Lib.openPiece, wordsGo]
    | some a =>
      have := Lib.pieceU_ne s.data.toList a s.size (hst a rfl) (by rw [Array.length_toList]; exact Nat.le_refl _)
      simp [Lib.spansFromP, Lib.closeSpans, Lib.openPiece, this, wordsGo]
  | f + 1, pos, st, acc, h, hp, hst => by
    have hsz : s.data.toList.length = s.size := Array.length_toList
    by_cases hlt : pos < s.size
    · have hget : s.data.toList.drop pos = s[pos]'hlt :: s.data.toList.drop (pos + 1) := by
        rw [List.drop_eq_getElem_cons (by omega)]
        rfl
      have key : (blankN (Utf8.decode s pos).1 = true ∧ (Utf8.decode s pos).2 = 1 ∧ bl (s[pos]'hlt) = true) ∨ (blankN (Utf8.decode s pos).1 = false ∧ 1 ≤ (Utf8.decode s pos).2 ∧ pos + (Utf8.decode s pos).2 ≤ s.size ∧ ∀ c ∈ (s.data.toList.drop pos).take (Utf8.decode s pos).2, bl c = false) := by
        by_cases ha : (s[pos]'hlt).toNat < 128
        · have hd : Utf8.decode s pos = ((s[pos]'hlt).toNat, 1) := by
            have hg : s.data.toList.getD pos 0 = s[pos]'hlt := by
              rw [List.getD_eq_getElem?_getD, List.getElem?_eq_getElem (by omega)]; rfl
            rw [Lib.decode_N, hg, Lib.decodeN_ascii _ _ _ _ _ ha]
          rw [hd]
          cases hb : bl (s[pos]'hlt) with
          | true => exact .inl ⟨(bl_N _).trans hb, rfl, rfl⟩
          | false =>
            refine .inr ⟨(bl_N _).trans hb, Nat.le_refl _, hlt, ?_⟩
            rw [hget]
            intro c hc
            simp at hc
            rw [hc]
            exact hb
        · obtain ⟨h1, h2⟩ := decode_high s pos hlt (by omega)
          obtain ⟨h3, h4⟩ := decode_span s pos hlt (by omega)
          refine .inr ⟨blank_not _ (by omega), by omega, h3, ?_⟩
          intro c hc
          obtain ⟨j, hj, rfl⟩ := List.mem_iff_getElem.1 hc
          rw [List.getElem_take, List.getElem_drop]
          rw [List.length_take] at hj
          have h5 := h4 (pos + j) (by omega) (by omega) (by omega)
          have h6 : bl (s.data.toList[pos + j]'(by omega)) = blankN (s.data.toList[pos + j]'(by omega)).toNat := (bl_N _).symm
          rw [h6]
          exact blank_not _ h5
      rcases key with ⟨k1, k2, k3⟩ | ⟨k1, k2, k3, k4⟩
      · simp only [Lib.spansFromP, if_pos hlt, k1, if_true, k2]
        rw [hget]
        cases st with
        | none =>
          have ih := spansP_eq s f (pos + 1) none acc (by omega) (by omega) (fun a h => by cases h)
          simp only [Lib.openPiece] at ih ⊢
          rw [← ih]
          conv => lhs; arg 2; unfold wordsGo
          rw [k3]; simp
        | some a =>
          have hpn := Lib.pieceU_ne s.data.toList a pos (hst a rfl) (by omega)
          have ih := spansP_eq s f (pos + 1) none (acc ++ [(a, pos)]) (by omega) (by omega) (fun a h => by cases h)
          simp only [Lib.openPiece] at ih ⊢
          rw [← ih]
          conv => lhs; arg 2; unfold wordsGo
          rw [k3]; simp [hpn]
      · simp only [Lib.spansFromP, if_pos hlt, k1, Bool.false_eq_true, if_false]
        rw [wordsGo_run (Utf8.decode s pos).2 _ _ (by rw [List.length_drop]; omega) k4, List.drop_drop]
        cases st with
        | none =>
          have ih := spansP_eq s f (pos + (Utf8.decode s pos).2) (some pos) acc (by omega) k3 (fun a h => by cases h; omega)
          have e : ([] : List UInt8) ++ (s.data.toList.drop pos).take (Utf8.decode s pos).2 = Lib.pieceU s.data.toList pos (pos + (Utf8.decode s pos).2) := by
            unfold Lib.pieceU
            rw [List.nil_append, Nat.add_sub_cancel_left]
          simp only [Lib.openPiece] at ih ⊢
          rw [e]
          exact ih
        | some a =>
          have ih := spansP_eq s f (pos + (Utf8.decode s pos).2) (some a) acc (by omega) k3 (fun b h => by cases h; have := hst a rfl; omega)
          simp only [Lib.openPiece] at ih ⊢
          rw [Lib.pieceU_grow _ _ _ _ (Nat.le_of_lt (hst a rfl))]
          exact ih
    · obtain rfl : pos = s.size := by omega
      have hd : s.data.toList.drop s.size = [] := List.drop_eq_nil_of_le (by omega)
      rw [hd, Lib.spansFromP_end _ s _ _ _ _ hlt]
      cases st with
      | none => simp [Lib.closeSpans, Lib.openPiece, wordsGo]
      | some a =>
        have := Lib.pieceU_ne s.data.toList a s.size (hst a rfl) (by omega)
        simp [Lib.closeSpans, Lib.openPiece, this, wordsGo]
theorem words_eq (l : List UInt8) : Lib.goFieldsP blankN (B l) = (wordsL l).map B := by
  have h := spansP_eq (B l) (B l).size 0 none [] (by omega) (by omega) (fun a h => by cases h)
  rw [B_data] at h
  simp only [List.map_nil, List.nil_append, List.drop_zero, Lib.openPiece] at h
  unfold Lib.goFieldsP Lib.spansOfP wordsL
  rw [h, List.map_map]
  apply List.map_congr_left
  rintro ⟨a, b⟩ _
  exact B_extract l a b
theorem wordsGo_len : ∀ (l cur : List UInt8), (wordsGo cur l).length ≤ cur.length + l.length ∧ ∀ x ∈ wordsGo cur l, x ≠ [] ∧ x.length ≤ cur.length + l.length
  | [], cur => by
    unfold wordsGo
    split
    · simp
    · rename_i h
      have : 0 < cur.length := List.length_pos_iff.2 h
      refine ⟨by simp; omega, fun x hx => ?_⟩
      simp at hx
      subst hx
      exact ⟨h, by simp⟩
  | b :: r, cur => by
    unfold wordsGo
    have ih := wordsGo_len r []
    have ih2 := wordsGo_len r (cur ++ [b])
    simp only [List.length_nil, Nat.zero_add, List.length_append, List.length_singleton] at ih ih2
    split
    · split
      · exact ⟨by simp; omega, fun x hx => ⟨(ih.2 x hx).1, by have := (ih.2 x hx).2; simp; omega⟩⟩
      · rename_i h
        have : 0 < cur.length := List.length_pos_iff.2 h
        refine ⟨by simp; omega, fun x hx => ?_⟩
        rcases List.mem_cons.1 hx with rfl | hx
        · exact ⟨h, by simp⟩
        · exact ⟨(ih.2 x hx).1, by have := (ih.2 x hx).2; simp; omega⟩
    · exact ⟨by simp; omega, fun x hx => ⟨(ih2.2 x hx).1, by have := (ih2.2 x hx).2; simp; omega⟩⟩
theorem wordsL_len (l : List UInt8) : (wordsL l).length ≤ l.length ∧ ∀ x ∈ wordsL l, x ≠ [] ∧ x.length ≤ l.length := by
  have h := wordsGo_len l []
  simpa [wordsL] using h
end Go.Proofs.YtnndgmbflkdhkaaGreatDoor.Q
