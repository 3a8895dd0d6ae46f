/- The document's Text, plain: it is csp's. -/
import Derived.Test.YtnndgmbflkdhkaaGreatDoorSRefC
set_option linter.unusedSimpArgs false
set_option linter.unusedVariables false
namespace Go.Proofs.YtnndgmbflkdhkaaGreatDoor.Q
open Go.RowKit Go.Proofs.YtnndgmbflkdhkaaGreatDoorW.PrintWords Go.Proofs.YtnndgmbflkdhkaaGreatDoorW.PrintLast Go.Proofs.YtnndgmbflkdhkaaGreatDoorW.PrintMore Go.Proofs.YtnndgmbflkdhkaaGreatDoor.P1
/-- the values of a line -/
def tailV (vs : List ByteArray) : List UInt8 := (vs.map fun v => 32 :: v.data.toList).flatten
theorem lineL_eq (d : S35) : lineL d = d.f0.data.toList ++ tailV d.f1 := by
  unfold lineL tailV
  rw [List.map_cons, Lib.join_cons]
  unfold Lib.joinTail
  rw [List.map_map]
  rfl
theorem tailV_len (m : Nat) : ∀ vs : List ByteArray, (∀ v ∈ vs, v.size ≤ m) → (tailV vs).length ≤ vs.length * (m + 1)
  | [], _ => by simp [tailV]
  | v :: vs, h => by
    have h1 := tailV_len m vs (fun x hx => h x (by simp [hx]))
    have h2 := h v (by simp)
    obtain ⟨s, rfl⟩ := B_ex v
    rw [B_size] at h2
    unfold tailV at h1 ⊢
    rw [List.map_cons, List.flatten_cons, List.length_append, List.length_cons, List.length_cons, B_data, Nat.add_mul, Nat.one_mul]
    omega
theorem textR_l1 (vs : List ByteArray) (hv : vs.length ≤ 64) (hz : ∀ v ∈ vs, v.size ≤ 1048576) (l : List S35) (x17 x18 : Int) (K : Nat) : ∀ (n k j : Nat) (a : List UInt8) (R : ByteArray × Int), vs.length - j = n → n + K + 1 < k → j ≤ vs.length → a.length ≤ 1000000000000 + j * 1048577 →
    (∀ k, K < k → bastionref14_Text.l0 k (B (a ++ tailV (vs.drop j))) l x17 (wrap64 (x18 + 1)) = some R) → bastionref14_Text.l1 k (B a) l x17 x18 vs (vs.length : Int) (j : Int) = some R
  | 0, k, j, a, R, hn, hk, hj, ha, next => by
    obtain ⟨k, rfl⟩ : ∃ m, k = m + 1 := ⟨k - 1, by omega⟩
    have q : ¬ (j : Int) < (vs.length : Int) := by omega
    rw [List.drop_eq_nil_of_le (by omega)] at next
    have h := next k (by omega)
    have e : a ++ tailV [] = a := by simp [tailV]
    rw [e] at h
    simp only [bastionref14_Text.l1]
    rw [if_neg q]
    exact h
  | n + 1, k, j, a, R, hn, hk, hj, ha, next => by
    obtain ⟨k, rfl⟩ : ∃ m, k = m + 1 := ⟨k - 1, by omega⟩
    have hlt : j < vs.length := by omega
    have q : (j : Int) < (vs.length : Int) := by omega
    have q0 : (0 : Int) ≤ (j : Int) := by omega
    have hs := hz vs[j] (List.getElem_mem hlt)
    have hr : rdOf ByteArray.empty vs (j : Int) = vs[j] := by unfold rdOf; simp [List.getD_eq_getElem?_getD, hlt]
    rw [List.drop_eq_getElem_cons hlt] at next
    simp only [bastionref14_Text.l1]
    rw [if_pos q, if_pos q0, if_pos q, hr, w64s hlt (by omega)]
    obtain ⟨s, hs'⟩ := B_ex vs[j]
    rw [hs'] at hs next ⊢
    rw [B_size] at hs
    have e1 : (⟨#[32]⟩ : ByteArray) ++ B s = B (32 :: s) := B_append [32] s
    rw [e1, B_append, B_size, B_size, B_size, List.length_cons, if_pos (by omega), if_pos (by omega)]
    refine textR_l1 vs hv hz l x17 x18 K n k (j + 1) (a ++ 32 :: s) R (by omega) (by omega) (by omega) (by rw [List.length_append, List.length_cons]; omega) (fun k' h => ?_)
    have h := next k' h
    have e2 : a ++ tailV (B s :: vs.drop (j + 1)) = (a ++ 32 :: s) ++ tailV (vs.drop (j + 1)) := by
      unfold tailV
      rw [List.map_cons, List.flatten_cons, List.append_assoc, B_data]
    rw [e2] at h
    exact h
def sepAt (i : Nat) (l : List S35) : List UInt8 := if i = 0 then Lib.join ((l.drop i).map lineL) [59, 32] else Lib.joinTail [59, 32] ((l.drop i).map lineL)
theorem sepAt_step (i : Nat) (l : List S35) (h : i < l.length) : sepAt i l = (if i = 0 then [] else [59, 32]) ++ (lineL l[i] ++ sepAt (i + 1) l) := by
  unfold sepAt
  rw [if_neg (show ¬ i + 1 = 0 by omega), List.drop_eq_getElem_cons h, List.map_cons]
  by_cases hi : i = 0
  · rw [if_pos hi, if_pos hi, Lib.join_cons]; rfl
  · rw [if_neg hi, if_neg hi]
    unfold Lib.joinTail
    rw [List.map_cons, List.flatten_cons, List.append_assoc]
theorem textR_l0 (l : List S35) (hl : l.length ≤ 64) (hs : ∀ d ∈ l, dirSmall d = true) (h64 : ∀ d ∈ l, d.f1.length ≤ 64) : ∀ (n k i : Nat) (a : List UInt8), l.length - i = n → 100 * n + 2 < k → i ≤ l.length → a.length ≤ i * 70000000 →
    bastionref14_Text.l0 k (B a) l (l.length : Int) (i : Int) = some (B (a ++ sepAt i l), 0)
  | 0, k, i, a, hn, hk, hi, ha => by
    obtain ⟨k, rfl⟩ : ∃ m, k = m + 1 := ⟨k - 1, by omega⟩
    have q : ¬ (i : Int) < (l.length : Int) := by omega
    have e : sepAt i l = [] := by
      unfold sepAt
      rw [List.drop_eq_nil_of_le (by omega)]
      split <;> rfl
    simp only [bastionref14_Text.l0]
    rw [if_neg q, e, List.append_nil]
  | n + 1, k, i, a, hn, hk, hi, ha => by
    obtain ⟨k, rfl⟩ : ∃ m, k = m + 2 := ⟨k - 2, by omega⟩
    obtain ⟨K, hK⟩ : ∃ K, 100 * n + 2 = K := ⟨_, rfl⟩
    have hlt : i < l.length := by omega
    have q : (i : Int) < (l.length : Int) := by omega
    have q0 : (0 : Int) ≤ (i : Int) := by omega
    have hmem := List.getElem_mem hlt
    have hd := hs l[i] hmem
    have h6 := h64 l[i] hmem
    simp only [dirSmall, Bool.and_eq_true, decide_eq_true_eq, List.all_eq_true] at hd
    obtain ⟨⟨d1, d2⟩, d3⟩ := hd
    have htl := tailV_len 1048576 l[i].f1 d3
    have htl' : (tailV l[i].f1).length ≤ 67108928 := Nat.le_trans htl (Nat.le_trans (Nat.mul_le_mul_right _ h6) (by decide))
    have hstep := sepAt_step i l hlt
    obtain ⟨s, hs'⟩ := B_ex l[i].f0
    have hd1 : s.length ≤ 1048576 := by rw [hs', B_size] at d1; exact d1
    have hline : lineL l[i] = s ++ tailV l[i].f1 := by rw [lineL_eq, hs', B_data]
    have fin : ∀ a' : List UInt8, a'.length ≤ i * 70000000 + 2 → a' ++ (lineL l[i] ++ sepAt (i + 1) l) = a ++ sepAt i l →
        bastionref14_Text.j1 (k + 1) (B a') l (l.length : Int) (i : Int) l[i].f0 l[i].f1 = some (B (a ++ sepAt i l), 0) := fun a' hl' he => by
      simp only [bastionref14_Text.j1]
      rw [hs', B_size, B_size, B_append, if_pos (by omega)]
      refine textR_l1 l[i].f1 h6 d3 l (l.length : Int) (i : Int) K l[i].f1.length k 0 (a' ++ s) _ (by omega) (by omega) (by omega) (by rw [List.length_append]; omega) (fun k' h => ?_)
      rw [w64s hlt (by omega), List.drop_zero]
      have ih := textR_l0 l hl hs h64 n k' (i + 1) ((a' ++ s) ++ tailV l[i].f1) (by omega) (by omega) (by omega) (by rw [List.length_append, List.length_append]; omega)
      rw [ih]
      have e2 : ((a' ++ s) ++ tailV l[i].f1) ++ sepAt (i + 1) l = a ++ sepAt i l := by
        rw [← he, hline]
        simp only [List.append_assoc]
      rw [e2]
    simp only [bastionref14_Text.l0]
    rw [if_pos q, if_pos q0, if_pos q, rd35_get hlt]
    by_cases hi0 : i = 0
    · rw [if_neg (by omega)]
      have hle : a.length ≤ i * 70000000 + 2 := Nat.le_trans ha (Nat.le_add_right _ _)
      exact fin a hle (by rw [hstep, if_pos hi0, List.nil_append])
    · rw [if_pos (by omega), B_size, if_pos (by omega)]
      have e1 : B a ++ (⟨#[59, 32]⟩ : ByteArray) = B (a ++ [59, 32]) := B_append a [59, 32]
      rw [e1]
      have hle : (a ++ [59, 32]).length ≤ i * 70000000 + 2 := by rw [List.length_append]; exact Nat.add_le_add_right ha 2
      exact fin (a ++ [59, 32]) hle (by rw [hstep, if_neg hi0, List.append_assoc])
theorem textR (l : List S35) (r : Bool) (hs : ∀ d ∈ l, dirSmall d = true) (k : Nat) (hk : 1100000 < k) : bastionref14_Text.f k l r = some (if okAt l l.length then (B (textL l), 0) else (⟨#[]⟩, 20)) := by
  unfold bastionref14_Text.f
  rw [checkR l r hs k hk]
  cases hok : okAt l l.length with
  | false => rfl
  | true =>
    obtain ⟨hl, hg⟩ := okAt_get l l.length hok
    have h64 : ∀ d ∈ l, d.f1.length ≤ 64 := fun d hd => by
      obtain ⟨i, hi, rfl⟩ := List.mem_iff_getElem.1 hd
      have h := (hg i hi).1
      rw [rd35_get hi] at h
      unfold dirOk at h
      simp only [Bool.and_eq_true, decide_eq_true_eq] at h
      exact h.1.2
    have h := textR_l0 l hl hs h64 l.length k 0 [] (by omega) (by omega) (by omega) (by simp)
    have e : ([] : List UInt8) ++ sepAt 0 l = textL l := by unfold sepAt textL; simp
    rw [e] at h
    simp only [Option.bind_some, if_true]
    exact h
end Go.Proofs.YtnndgmbflkdhkaaGreatDoor.Q
