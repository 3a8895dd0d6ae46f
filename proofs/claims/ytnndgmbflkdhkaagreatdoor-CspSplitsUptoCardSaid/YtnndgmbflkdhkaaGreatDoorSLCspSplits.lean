/- CspSplits, plain. -/
import Derived.Test.YtnndgmbflkdhkaaGreatDoorSB6
import Derived.Test.YtnndgmbflkdhkaaGreatDoorSQCspSplits
set_option linter.unusedSimpArgs false
set_option linter.unusedVariables false
namespace Go.Proofs.YtnndgmbflkdhkaaGreatDoor.Q
open Go.RowKit Go.Proofs.YtnndgmbflkdhkaaGreatDoorW.PrintWords Go.Proofs.YtnndgmbflkdhkaaGreatDoorW.PrintLast Go.Proofs.YtnndgmbflkdhkaaGreatDoorW.PrintMore Go.Proofs.YtnndgmbflkdhkaaGreatDoor.P1
/-- what csp.Parse answers -/
theorem parse_cases (s : List UInt8) (rep : Bool) : (∃ ds, parseGo (parts 59 s) [] = some ds ∧ s.length ≤ 4096 ∧ csp_Parse.f (B s) rep = some (ds, rep, 0)) ∨ csp_Parse.f (B s) rep = some ([], false, 3) ∨ csp_Parse.f (B s) rep = some ([], false, 4) := by
  unfold csp_Parse.f
  rw [B_size, B_data]
  split
  · rename_i hs
    cases hp : parseGo (parts 59 s) [] with
    | none => exact .inr (.inl rfl)
    | some ds => exact .inl ⟨ds, rfl, hs, rfl⟩
  · exact .inr (.inr rfl)
theorem splits_end (a b : List UInt8) (ha : 59 ∉ a) (hb : 59 ∉ b) (hla : a.length ≤ 1048576) (hlb : b.length ≤ 1048576) (k : Nat) (hk : 300 < k) : bastionlaw14_CspSplits.l1 k (B a) (B b) (b.length : Int) = some true := by
  obtain ⟨k, rfl⟩ : ∃ m, k = m + 1 := ⟨k - 1, by omega⟩
  simp only [bastionlaw14_CspSplits.l1]
  rw [if_neg (by rw [B_size]; omega)]
  have e1 : (⟨#[59]⟩ : ByteArray) = B [59] := rfl
  rw [e1]
  simp only [B_append, B_size]
  have hz := parse_cases (a ++ [59] ++ b) false
  have hx := parse_cases a false
  have hy := parse_cases b false
  have s1 : a.length + 1 ≤ 9223372036854775807 := by omega
  have s2 : (a ++ [59]).length + b.length ≤ 9223372036854775807 := by simp; omega
  rcases hx with ⟨xs, hx1, hx2, hx⟩ | hx | hx <;> rcases hy with ⟨ys, hy1, hy2, hy⟩ | hy | hy <;> rcases hz with ⟨zs, hz1, hz2, hz⟩ | hz | hz <;> rw [hx, hy] <;> simp only [Option.bind_some, if_pos s1, if_pos s2, hz]
  case inl.inl.inl =>
    simp only [if_true]
    rw [parts_one 59 a ha] at hx1
    rw [parts_one 59 b hb] at hy1
    have e2 : a ++ [59] ++ b = a ++ 59 :: b := by simp
    rw [e2, parts_two ha hb] at hz1
    have gx := parse_good [a] [] xs (fun p hp => by simp at hp; subst hp; exact ⟨ha, hx2⟩) good_nil hx1
    have gy := parse_good [b] [] ys (fun p hp => by simp at hp; subst hp; exact ⟨hb, hy2⟩) good_nil hy1
    rcases parse_single hx1 with rfl | ⟨y, vs, hw, hl, rfl⟩
    · rw [if_pos (by simp)]
    · rw [if_neg (by simp)]
      rcases parse_single hy1 with rfl | ⟨y', vs', hw', hl', rfl⟩
      · rw [if_pos (by simp)]
      · rw [if_neg (by simp), if_pos (by simp), if_pos (by simp)]
        have r1 : rd_T35 [(⟨B (low y), vs.map B⟩ : S35)] 0 = ⟨B (low y), vs.map B⟩ := rfl
        have r2 : rd_T35 [(⟨B (low y'), vs'.map B⟩ : S35)] 0 = ⟨B (low y'), vs'.map B⟩ := rfl
        rw [r1, r2]
        split
        · rfl
        · rename_i hne
          rw [parse_two hx1 hy1 hne] at hz1
          cases hz1
          rw [same_refl _ false 64 (by omega) (by simp) (fun d hd => by
            simp at hd
            rcases hd with rfl | rfl <;> simp <;> omega) k (by simp; omega)]
          rfl
  all_goals rfl
theorem splits_l1 (a b : List UInt8) (ha : 59 ∉ a) (hla : a.length ≤ 1048576) (hlb : b.length ≤ 1048576) : ∀ (n k i : Nat), b.length - i = n → n + 301 < k → i ≤ b.length → (∀ c ∈ b.take i, c ≠ 59) →
    bastionlaw14_CspSplits.l1 k (B a) (B b) (i : Int) = some true
  | 0, k, i, hn, hk, hi, hno => by
    obtain rfl : i = b.length := by omega
    exact splits_end a b ha (fun h => hno 59 (by rw [List.take_length]; exact h) rfl) hla hlb k (by omega)
  | n + 1, k, i, hn, hk, hi, hno => by
    obtain ⟨k, rfl⟩ : ∃ m, k = m + 1 := ⟨k - 1, by omega⟩
    have hw : wrap64 ((i : Int) + 1) = ((i + 1 : Nat) : Int) := by rw [w64 (by omega) (by omega)]; omega
    have hlt : i < b.length := by omega
    simp only [bastionlaw14_CspSplits.l1]
    rw [if_pos (by rw [B_size]; omega), if_pos (by omega), B_bt, Int.toNat_natCast, List.getD_eq_getElem?_getD, List.getElem?_eq_getElem hlt, Option.getD_some]
    split
    · rfl
    · rename_i hne
      rw [hw]
      refine splits_l1 a b ha hla hlb n k (i + 1) (by omega) (by omega) (by omega) (fun c hc => ?_)
      rw [List.take_add_one, List.getElem?_eq_getElem hlt, Option.toList_some] at hc
      rcases List.mem_append.1 hc with hc | hc
      · exact hno c hc
      · simp at hc
        subst hc
        intro e
        rw [e] at hne
        exact hne rfl
theorem splits_l0 (a b : List UInt8) (hla : a.length ≤ 1048576) (hlb : b.length ≤ 1048576) : ∀ (n k i : Nat), a.length - i = n → n + b.length + 310 < k → i ≤ a.length → (∀ c ∈ a.take i, c ≠ 59) →
    bastionlaw14_CspSplits.l0 k (B a) (B b) (i : Int) = some true
  | 0, k, i, hn, hk, hi, hno => by
    obtain ⟨k, rfl⟩ : ∃ m, k = m + 1 := ⟨k - 1, by omega⟩
    simp only [bastionlaw14_CspSplits.l0]
    rw [if_neg (by rw [B_size]; omega)]
    exact splits_l1 a b (fun h => hno 59 (by rw [List.take_of_length_le (by omega)]; exact h) rfl) hla hlb b.length k 0 (by omega) (by omega) (by omega) (by simp)
  | n + 1, k, i, hn, hk, hi, hno => by
    obtain ⟨k, rfl⟩ : ∃ m, k = m + 1 := ⟨k - 1, by omega⟩
    have hw : wrap64 ((i : Int) + 1) = ((i + 1 : Nat) : Int) := by rw [w64 (by omega) (by omega)]; omega
    have hlt : i < a.length := by omega
    simp only [bastionlaw14_CspSplits.l0]
    rw [if_pos (by rw [B_size]; omega), if_pos (by omega), B_bt, Int.toNat_natCast, List.getD_eq_getElem?_getD, List.getElem?_eq_getElem hlt, Option.getD_some]
    split
    · rfl
    · rename_i hne
      rw [hw]
      refine splits_l0 a b hla hlb n k (i + 1) (by omega) (by omega) (by omega) (fun c hc => ?_)
      rw [List.take_add_one, List.getElem?_eq_getElem hlt, Option.toList_some] at hc
      rcases List.mem_append.1 hc with hc | hc
      · exact hno c hc
      · simp at hc
        subst hc
        intro e
        rw [e] at hne
        exact hne rfl
theorem cspSplits_pure (a0 a1 : ByteArray) (h : a0.size + a1.size ≤ 1048576) : ∃ k, bastionlaw14_CspSplits.f k a0 a1 = some true := by
  obtain ⟨a, rfl⟩ := B_ex a0
  obtain ⟨b, rfl⟩ := B_ex a1
  rw [B_size, B_size] at h
  refine ⟨2098000, ?_⟩
  unfold bastionlaw14_CspSplits.f bastionlaw14_lives.f
  simp only [Option.bind_some, if_true]
  exact splits_l0 a b (by omega) (by omega) a.length _ 0 (by omega) (by omega) (by omega) (by simp)
end Go.Proofs.YtnndgmbflkdhkaaGreatDoor.Q
