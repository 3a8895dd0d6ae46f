/- csp.Text, plain. -/
import Derived.Test.YtnndgmbflkdhkaaGreatDoorSCheck
import Derived.Test.YtnndgmbflkdhkaaGreatDoorSJoin
import Derived.Test.YtnndgmbflkdhkaaGreatDoorSCspL
import Derived.Test.YtnndgmbflkdhkaaGreatDoorSQcspTextA
set_option linter.unusedSimpArgs false
set_option linter.unusedVariables false
namespace Go.Proofs.YtnndgmbflkdhkaaGreatDoor.Q
open Go.RowKit Go.Proofs.YtnndgmbflkdhkaaGreatDoorW.PrintWords Go.Proofs.YtnndgmbflkdhkaaGreatDoorW.PrintLast Go.Proofs.YtnndgmbflkdhkaaGreatDoorW.PrintMore Go.Proofs.YtnndgmbflkdhkaaGreatDoor.P1
def lineL (d : S35) : List UInt8 := Lib.join ((d.f0 :: d.f1).map (·.data.toList)) [32]
def textL (l : List S35) : List UInt8 := Lib.join (l.map lineL) [59, 32]
theorem join_two (x y : List UInt8) (r : List (List UInt8)) (sep : List UInt8) : Lib.join (x :: y :: r) sep = x ++ (sep ++ Lib.join (y :: r) sep) := by simp [Lib.join, List.intercalate, List.intersperse]
theorem join_le (sep : List UInt8) (m : Nat) : ∀ (xs : List (List UInt8)), (∀ x ∈ xs, x.length ≤ m) → (Lib.join xs sep).length ≤ xs.length * (m + sep.length)
  | [], _ => by simp [Lib.join]
  | [x], h => by have := h x (by simp); simp [Lib.join]; omega
  | x :: y :: r, h => by
    have h1 := h x (by simp)
    have h2 := join_le sep m (y :: r) (fun z hz => h z (by simp [hz]))
    rw [join_two]
    simp only [List.length_append, List.length_cons, Nat.add_mul, Nat.one_mul] at h2 ⊢
    omega
theorem okAt_get (l : List S35) : ∀ n, okAt l n = true → l.length ≤ 64 ∧ ∀ i < n, dirOk (l.take i) (rd_T35 l (i : Int)) = true ∧ ((rd_T35 l (i : Int)).f1.any fun v => !wordV v) = false
  | 0, h => ⟨by simpa [okAt] using h, fun i hi => by omega⟩
  | n + 1, h => by
    simp only [okAt, Bool.and_eq_true, Bool.not_eq_true'] at h
    obtain ⟨⟨h1, h2⟩, h3⟩ := h
    obtain ⟨h4, h5⟩ := okAt_get l n h1
    refine ⟨h4, fun i hi => ?_⟩
    by_cases hin : i < n
    · exact h5 i hin
    · obtain rfl : i = n := by omega
      exact ⟨h2, h3⟩
theorem line_join (d : S35) (hs : dirSmall d = true) (h64 : d.f1.length ≤ 64) : strings_Join.f (([d.f0] : List ByteArray) ++ d.f1) (⟨#[32]⟩ : ByteArray) = some (B (lineL d)) ∧ (lineL d).length ≤ 68157505 := by
  simp only [dirSmall, Bool.and_eq_true, decide_eq_true_eq] at hs
  obtain ⟨⟨h1, h2⟩, h3⟩ := hs
  have hall : ∀ x ∈ ((d.f0 :: d.f1).map (·.data.toList)), x.length ≤ 1048576 := by
    intro x hx
    rcases List.mem_map.1 hx with ⟨y, hy, rfl⟩
    rw [Array.length_toList]
    rcases List.mem_cons.1 hy with rfl | hy
    · exact h1
    · exact of_decide_eq_true (List.all_eq_true.1 h3 y hy)
  have hj := join_le [32] 1048576 _ hall
  rw [List.length_map, List.length_cons] at hj
  have hj2 : (lineL d).length ≤ 68157505 := by
    unfold lineL
    refine Nat.le_trans hj ?_
    have : (d.f1.length + 1) * (1048576 + ([32] : List UInt8).length) ≤ 65 * 1048577 := Nat.mul_le_mul (by omega) (by simp)
    omega
  refine ⟨?_, hj2⟩
  unfold strings_Join.f
  rw [if_pos ⟨by simp; omega, by unfold joinB; exact Nat.le_trans hj2 (by omega)⟩]
  rfl
theorem text_l0 (l : List S35) (hl : l.length ≤ 64) (hsm : ∀ d ∈ l, dirSmall d = true) (h64 : ∀ d ∈ l, d.f1.length ≤ 64) : ∀ (n k i : Nat), l.length - i = n → n < k → i ≤ l.length →
    csp_Text.l0 k ((l.take i).map fun d => B (lineL d)) l (l.length : Int) (i : Int) = some (B (textL l), 0) := by
  intro n
  induction n with
  | zero =>
    intro k i hn hk hi
    obtain ⟨k, rfl⟩ : ∃ m, k = m + 1 := ⟨k - 1, by omega⟩
    have hil : i = l.length := by omega
    simp only [csp_Text.l0]
    rw [if_neg (by omega), hil, List.take_length]
    have hall : ∀ x ∈ l.map lineL, x.length ≤ 68157505 := by
      intro x hx
      rcases List.mem_map.1 hx with ⟨d, hd, rfl⟩
      exact (line_join d (hsm d hd) (h64 d hd)).2
    have hj := join_le [59, 32] 68157505 _ hall
    rw [List.length_map] at hj
    have hb : (textL l).length ≤ 140737488355328 := by
      refine Nat.le_trans hj ?_
      have : l.length * (68157505 + ([59, 32] : List UInt8).length) ≤ 64 * 68157507 := Nat.mul_le_mul hl (by simp)
      omega
    have e : joinB (l.map fun d => B (lineL d)) (⟨#[59, 32]⟩ : ByteArray) = textL l := by
      unfold joinB textL
      rw [List.map_map]
      rfl
    unfold strings_Join.f
    rw [e, if_pos ⟨by rw [List.length_map]; omega, hb⟩]
    rfl
  | succ n ih =>
    intro k i hn hk hi
    obtain ⟨k, rfl⟩ : ∃ m, k = m + 1 := ⟨k - 1, by omega⟩
    have hlt : i < l.length := by omega
    have hr : rd_T35 l (i : Int) = l[i]'hlt := by
      unfold rd_T35
      simp [List.getD_eq_getElem?_getD, hlt]
    have hmem : l[i]'hlt ∈ l := List.getElem_mem _
    have hs := hsm _ hmem
    have h6 := h64 _ hmem
    have hw : wrap64 ((i : Int) + 1) = ((i + 1 : Nat) : Int) := by rw [w64 (by omega) (by omega)]; omega
    simp only [csp_Text.l0]
    rw [if_pos (by omega), if_pos (by omega), if_pos (by omega), hr]
    simp only [Option.bind_some]
    rw [if_pos (by simp; omega), (line_join _ hs h6).1]
    simp only [Option.bind_some]
    rw [if_pos (by simp; omega), hw]
    have := ih k (i + 1) (by omega) (by omega) (by omega)
    rw [List.take_add_one, List.getElem?_eq_getElem hlt, Option.toList_some, List.map_append] at this
    exact this
theorem text_ok (l : List S35) (rep : Bool) (hok : okAt l l.length = true) (hsm : l.all dirSmall = true) (k : Nat) (hk : 64 < k) : csp_Text.f k l rep = some (B (textL l), 0) := by
  obtain ⟨hl, hg⟩ := okAt_get l _ hok
  unfold csp_Text.f csp_Check.f
  rw [if_pos ⟨by omega, hsm⟩, hok]
  simp only [Option.bind_some, if_true]
  refine text_l0 l hl (fun d hd => List.all_eq_true.1 hsm d hd) (fun d hd => ?_) l.length k 0 (by omega) (by omega) (by omega)
  obtain ⟨i, hi, rfl⟩ := List.mem_iff_getElem.1 hd
  have h := (hg i hi).1
  have hr : rd_T35 l (i : Int) = l[i]'hi := by
    unfold rd_T35
    simp [List.getD_eq_getElem?_getD, hi]
  rw [hr] at h
  simp only [dirOk, Bool.and_eq_true, decide_eq_true_eq] at h
  exact h.1.2
end Go.Proofs.YtnndgmbflkdhkaaGreatDoor.Q
