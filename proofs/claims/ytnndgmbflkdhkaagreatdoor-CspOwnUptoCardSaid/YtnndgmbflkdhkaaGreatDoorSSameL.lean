/- bastionref14.Same at two that are one: plain. -/
import Derived.Test.YtnndgmbflkdhkaaGreatDoorSB4
import Derived.Test.YtnndgmbflkdhkaaGreatDoorSQbastionref14SameA
set_option linter.unusedSimpArgs false
set_option linter.unusedVariables false
namespace Go.Proofs.YtnndgmbflkdhkaaGreatDoor.Q
open Go.RowKit Go.Proofs.YtnndgmbflkdhkaaGreatDoorW.PrintWords Go.Proofs.YtnndgmbflkdhkaaGreatDoorW.PrintLast Go.Proofs.YtnndgmbflkdhkaaGreatDoorW.PrintMore Go.Proofs.YtnndgmbflkdhkaaGreatDoor.P1
theorem sameWords_l (l : List ByteArray) (hl : l.length ≤ 1048576) : ∀ (d k i : Nat), l.length - i = d → d < k → i ≤ l.length → bastionref14_SameWords.l0 k l l (l.length : Int) (i : Int) = some true
  | 0, k, i, hd, hk, hi => by
    obtain ⟨k, rfl⟩ : ∃ m, k = m + 1 := ⟨k - 1, by omega⟩
    unfold bastionref14_SameWords.l0
    rw [if_neg (by omega)]
  | d + 1, k, i, hd, hk, hi => by
    obtain ⟨k, rfl⟩ : ∃ m, k = m + 1 := ⟨k - 1, by omega⟩
    have hw : wrap64 ((i : Int) + 1) = ((i + 1 : Nat) : Int) := by rw [w64 (by omega) (by omega)]; omega
    unfold bastionref14_SameWords.l0
    rw [if_pos (by omega), if_pos (by omega), if_pos (by omega), if_pos (by omega), if_pos rfl, hw]
    exact sameWords_l l hl d k (i + 1) (by omega) (by omega) (by omega)
theorem sameWords_refl (l : List ByteArray) (hl : l.length ≤ 1048576) (k : Nat) (hk : l.length < k) : bastionref14_SameWords.f k l l = some true := by
  unfold bastionref14_SameWords.f
  rw [if_pos rfl]
  exact sameWords_l l hl l.length k 0 (by omega) hk (by omega)
theorem sameDir_refl (x : ByteArray) (l : List ByteArray) (hl : l.length ≤ 1048576) (k : Nat) (hk : l.length < k) : bastionref14_SameDirective.f k x l x l = some true := by
  unfold bastionref14_SameDirective.f
  rw [if_pos rfl, sameWords_refl l hl k hk]; rfl
theorem same_l (ds : List S35) (r : Bool) (M : Nat) (hM : M ≤ 1048576) (hn : ds.length ≤ 1048576) (hd : ∀ d ∈ ds, d.f1.length ≤ M) : ∀ (n k i : Nat), ds.length - i = n → n + M < k → i ≤ ds.length → bastionref14_Same.l0 k (ds.length : Int) (i : Int) ds r ds r = some true
  | 0, k, i, hn', hk, hi => by
    obtain ⟨k, rfl⟩ : ∃ m, k = m + 1 := ⟨k - 1, by omega⟩
    unfold bastionref14_Same.l0
    rw [if_neg (by omega)]
  | n + 1, k, i, hn', hk, hi => by
    obtain ⟨k, rfl⟩ : ∃ m, k = m + 1 := ⟨k - 1, by omega⟩
    have hw : wrap64 ((i : Int) + 1) = ((i + 1 : Nat) : Int) := by rw [w64 (by omega) (by omega)]; omega
    have hr : rd_T35 ds (i : Int) = ds[i]'(by omega) := by
      unfold rd_T35
      simp [List.getD_eq_getElem?_getD, (by omega : i < ds.length)]
    have hm := hd _ (List.getElem_mem (by omega : i < ds.length))
    unfold bastionref14_Same.l0
    rw [if_pos (by omega), if_pos (by omega), if_pos (by omega), if_pos (by omega), hr, sameDir_refl _ _ (by omega) k (by omega), hw]
    simp only [Option.bind_some, if_true]
    exact same_l ds r M hM hn hd n k (i + 1) (by omega) (by omega) (by omega)
theorem same_refl (ds : List S35) (r : Bool) (M : Nat) (hM : M ≤ 1048576) (hn : ds.length ≤ 1048576) (hd : ∀ d ∈ ds, d.f1.length ≤ M) (k : Nat) (hk : ds.length + M + 1 < k) : bastionref14_Same.f k ds r ds r = some true := by
  obtain ⟨k, rfl⟩ : ∃ m, k = m + 1 := ⟨k - 1, by omega⟩
  unfold bastionref14_Same.f
  rw [if_neg (by simp)]
  simp only [bastionref14_Same.j0]
  rw [if_neg (by simp)]
  exact same_l ds r M hM hn hd ds.length k 0 (by omega) (by omega) (by omega)
end Go.Proofs.YtnndgmbflkdhkaaGreatDoor.Q
