/- CspHeaders, plain. -/
import Derived.Test.YtnndgmbflkdhkaaGreatDoorSBackP
import Derived.Test.YtnndgmbflkdhkaaGreatDoorSB6
import Derived.Test.YtnndgmbflkdhkaaGreatDoorSHeader
import Derived.Test.YtnndgmbflkdhkaaGreatDoorSQCspHeaders
set_option linter.unusedSimpArgs false
set_option linter.unusedVariables false
namespace Go.Proofs.YtnndgmbflkdhkaaGreatDoor.Q
open Go.RowKit Go.Proofs.YtnndgmbflkdhkaaGreatDoorW.PrintWords Go.Proofs.YtnndgmbflkdhkaaGreatDoorW.PrintLast Go.Proofs.YtnndgmbflkdhkaaGreatDoorW.PrintMore Go.Proofs.YtnndgmbflkdhkaaGreatDoor.P1
theorem good_same2 {ds : List S35} (h : Good ds) (r : Bool) (k : Nat) (hk : 200 < k) : bastionref14_Same.f k ds r ds r = some true :=
  same_refl ds r 64 (by omega) (by have := h.1; omega) (fun d hd => by obtain ⟨x, vs, rfl, _, _, hl⟩ := h.2.1 d hd; simpa using hl) k (by have := h.1; omega)
theorem pErr_good (y : List UInt8) : Good (pErr y).2 := by
  unfold pErr
  split
  · rename_i hs
    cases hp : parseGo (parts 59 y) [] with
    | none => exact good_nil
    | some ds => exact parse_Good hs hp
  · exact good_nil
theorem headGo_good (rep : Bool) : ∀ (a : List (List UInt8)) (acc : List S25), (∀ p ∈ acc, Good p.f0) → ∀ p ∈ (headGo rep a acc).2, Good p.f0
  | [], acc, h => h
  | x :: ps, acc, h => by
    rw [headGo_cons]
    split
    · refine headGo_good rep ps _ ?_
      split
      · exact h
      · intro p hp
        rcases List.mem_append.1 hp with hp | hp
        · exact h p hp
        · simp at hp; subst hp; exact pErr_good x
    · intro p hp; cases hp
theorem headF_good (rep : Bool) (l : List (List UInt8)) : (headF rep l).1.length ≤ 64 ∧ ∀ p ∈ (headF rep l).1, Good p.f0 := by
  unfold headF
  split
  · split
    · exact ⟨by simp, fun p hp => by cases hp⟩
    · exact ⟨by simp only; omega, headGo_good rep _ [] (fun p hp => by cases hp)⟩
  · exact ⟨by simp, fun p hp => by cases hp⟩
theorem sameAll_l (ps : List S25) (hn : ps.length ≤ 1048576) (hd : ∀ p ∈ ps, Good p.f0) : ∀ (n k i : Nat), ps.length - i = n → n + 300 < k → i ≤ ps.length → bastionref14_SameAll.l0 k ps ps (ps.length : Int) (i : Int) = some true
  | 0, k, i, hn', hk, hi => by
    obtain ⟨k, rfl⟩ : ∃ m, k = m + 1 := ⟨k - 1, by omega⟩
    simp only [bastionref14_SameAll.l0]
    rw [if_neg (by omega)]
  | n + 1, k, i, hn', hk, hi => by
    obtain ⟨k, rfl⟩ : ∃ m, k = m + 1 := ⟨k - 1, by omega⟩
    have hw : wrap64 ((i : Int) + 1) = ((i + 1 : Nat) : Int) := by rw [w64 (by omega) (by omega)]; omega
    have hr : rd_T25 ps (i : Int) = ps[i]'(by omega) := by
      unfold rd_T25
      simp [List.getD_eq_getElem?_getD, (by omega : i < ps.length)]
    have hm := hd _ (List.getElem_mem (by omega : i < ps.length))
    simp only [bastionref14_SameAll.l0]
    rw [if_pos (by omega), if_pos (by omega), if_pos (by omega), if_pos (by omega), hr, good_same2 hm _ k (by omega), hw]
    simp only [Option.bind_some, if_true]
    exact sameAll_l ps hn hd n k (i + 1) (by omega) (by omega) (by omega)
theorem sameAll_refl (ps : List S25) (hn : ps.length ≤ 1048576) (hd : ∀ p ∈ ps, Good p.f0) (k : Nat) (hk : ps.length + 300 < k) : bastionref14_SameAll.f k ps ps = some true := by
  unfold bastionref14_SameAll.f
  rw [if_pos rfl]
  exact sameAll_l ps hn hd ps.length k 0 (by omega) hk (by omega)
theorem header_f (l : List (List UInt8)) (rep : Bool) (h : ((l.map B).map fun s => s.size + 1).sum ≤ 1099511627776) : csp_Header.f (l.map B) rep = some (headF rep l) := by
  unfold csp_Header.f
  rw [if_pos h, List.map_map]
  have : l.map ((fun s : ByteArray => s.data.toList) ∘ B) = l := by
    conv => rhs; rw [← List.map_id l]
    exact List.map_congr_left (fun x _ => B_data x)
  rw [this]
theorem cspHeaders_pure (a0 a1 : ByteArray) (a2 : Bool) (h : a0.size + a1.size ≤ 1048576) : ∃ k, bastionlaw14_CspHeaders.f k a0 a1 a2 = some true := by
  obtain ⟨a, rfl⟩ := B_ex a0
  obtain ⟨b, rfl⟩ := B_ex a1
  rw [B_size, B_size] at h
  have e1 : (⟨#[44]⟩ : ByteArray) = B [44] := rfl
  have hx := header_f [a, b] a2 (by simp [B_size]; omega)
  have hy := header_f [a ++ [44] ++ b] a2 (by simp [B_size]; omega)
  have he : headF a2 [a ++ [44] ++ b] = headF a2 [a, b] := by
    have : hParts [a ++ [44] ++ b] = hParts [a, b] := by
      have e : a ++ [44] ++ b = a ++ 44 :: b := by simp
      rw [e]
      simp [hParts, parts_app]
    unfold headF
    rw [this]
  rw [he] at hy
  obtain ⟨g1, g2⟩ := headF_good a2 [a, b]
  refine ⟨1000, ?_⟩
  unfold bastionlaw14_CspHeaders.f bastionlaw14_lives.f
  simp only [Option.bind_some, if_true]
  have hx' : csp_Header.f ([B a, B b] : List ByteArray) a2 = some (headF a2 [a, b]) := hx
  rw [hx', e1]
  simp only [Option.bind_some, B_append, B_size]
  rw [if_pos (by omega), if_pos (by simp; omega)]
  have hy' : csp_Header.f ([B (a ++ [44] ++ b)] : List ByteArray) a2 = some (headF a2 [a, b]) := hy
  rw [hy']
  simp only [Option.bind_some, if_true]
  rw [sameAll_refl _ (by omega) g2 _ (by omega)]
  rfl
end Go.Proofs.YtnndgmbflkdhkaaGreatDoor.Q
