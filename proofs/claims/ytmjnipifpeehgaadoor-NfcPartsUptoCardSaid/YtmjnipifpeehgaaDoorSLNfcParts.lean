/- NfcParts, plain: runes that are taken apart in two parts are taken apart as at once. -/
import Derived.Test.YtmjnipifpeehgaaDoorSB6
import Derived.Test.YtmjnipifpeehgaaDoorSQNfcParts
set_option linter.unusedSimpArgs false
set_option linter.unusedVariables false
namespace Go.Proofs.YtmjnipifpeehgaaDoor.Q
open Go.RowKit Go.Proofs.YtmjnipifpeehgaaDoorW.PrintWords
theorem apart_some2 (x : TabR) (h : okT x) (l : List Int) : nfc_Apart.f x.f0 x.f1 x.f2 x.f3 x.f4 l = some (apt x.f0 x.f1 x.f2 x.f3 x.f4 l) := by unfold nfc_Apart.f; rw [if_pos h.2.1]
theorem decAll_append (l2 : List Pa) (a b : List Int) : decAll l2 (a ++ b) = decAll l2 a ++ decAll l2 b := by unfold decAll; simp
theorem apt_cases (x : TabR) (l : List Int) : (chk x.f0 x.f1 x.f2 x.f3 x.f4 = 0 ∧ l.length ≤ 4096 ∧ (decAll x.f2 l).length ≤ 4096 ∧ apt x.f0 x.f1 x.f2 x.f3 x.f4 l = (decAll x.f2 l, 0)) ∨ ∃ e, e ≠ 0 ∧ apt x.f0 x.f1 x.f2 x.f3 x.f4 l = ([], e) := by
  unfold apt
  by_cases h : chk x.f0 x.f1 x.f2 x.f3 x.f4 = 0
  · rw [if_pos h]
    by_cases h1 : l.length ≤ 4096
    · rw [if_pos h1]
      by_cases h2 : (decAll x.f2 l).length ≤ 4096
      · rw [if_pos h2]; exact .inl ⟨h, h1, h2, rfl⟩
      · rw [if_neg h2]; exact .inr ⟨3, by decide, rfl⟩
    · rw [if_neg h1]; exact .inr ⟨3, by decide, rfl⟩
  · rw [if_neg h]; exact .inr ⟨_, h, rfl⟩
theorem apt_of (x : TabR) (l : List Int) (h0 : chk x.f0 x.f1 x.f2 x.f3 x.f4 = 0) (h1 : l.length ≤ 4096) (h2 : (decAll x.f2 l).length ≤ 4096) : apt x.f0 x.f1 x.f2 x.f3 x.f4 l = (decAll x.f2 l, 0) := by
  unfold apt; rw [if_pos h0, if_pos h1, if_pos h2]
theorem parts_pure (x : TabR) (a b : List Int) (h : okT x) (hwa : ∀ n ∈ a, (Lit.int .i32 n).wf = true) (hwb : ∀ n ∈ b, (Lit.int .i32 n).wf = true) (hs : mTab x + a.length + b.length ≤ 1048576) : ∃ k, bastionlaw04_NfcParts.f k x.f0 x.f1 x.f2 x.f3 x.f4 a b = some true := by
  unfold mTab at hs
  have h1 : x.f1.length ≤ 1073741824 := by omega
  have h2 : x.f2.length ≤ 1073741824 := by omega
  refine ⟨12300, ?_⟩
  unfold bastionlaw04_NfcParts.f
  rw [lives_some _ (by omega), Option.bind_some, if_pos rfl, Option.bind_some, if_pos (by simp; omega), Option.bind_some, if_pos (by simp; omega), Option.bind_some, List.nil_append, apart_some2 x h, Option.bind_some, apart_some2 x h, Option.bind_some, apart_some2 x h, Option.bind_some]
  rcases apt_cases x (a ++ b) with ⟨c0, c1, c2, c3⟩ | ⟨e, he, c3⟩
  · rw [List.length_append] at c1
    have hd := decAll_append x.f2 a b
    have hdl : (decAll x.f2 a).length + (decAll x.f2 b).length ≤ 4096 := by rw [hd, List.length_append] at c2; exact c2
    have ea := apt_of x a c0 (by omega) (by omega)
    have eb := apt_of x b c0 (by omega) (by omega)
    rw [c3, ea, eb, if_pos rfl, form_some x.f0 x.f1 x.f2 x.f3 x.f4 h1 h2 h.1 h.2.1 (a ++ b) _ (by omega), Option.bind_some, c3, if_pos rfl, if_pos rfl, if_pos rfl, Option.bind_some, if_pos (by simp; omega), Option.bind_some, if_pos (by simp; omega), List.nil_append]
    show ((bastionref02_Same.f 12300 (decAll x.f2 (a ++ b)) (decAll x.f2 a ++ decAll x.f2 b)).bind _) = _
    rw [same_some _ _ (by omega) _ (by omega), Option.bind_some, if_pos (by rw [hd]; simp), if_pos rfl]
    have hol : (I.ordL x.f1 (decAll x.f2 (a ++ b))).length = (decAll x.f2 (a ++ b)).length := ordL_length _ _
    have ho : nfc_Ordered.f x.f0 x.f1 x.f2 x.f3 x.f4 (decAll x.f2 (a ++ b)) = some (I.ordL x.f1 (decAll x.f2 (a ++ b))) := by unfold nfc_Ordered.f; rw [if_pos ⟨h1, by omega, h.1⟩]
    show ((nfc_Ordered.f x.f0 x.f1 x.f2 x.f3 x.f4 (decAll x.f2 (a ++ b))).bind _) = _
    rw [ho, Option.bind_some, together_some x.f0 x.f1 x.f2 x.f3 x.f4 h1 h2 _ (by omega) _ (by omega), Option.bind_some]
    have htl := togL_len (clsOf x.f1) (bothR x.f0 x.f1 x.f2 x.f3 x.f4) (I.ordL x.f1 (decAll x.f2 (a ++ b)))
    show ((bastionref02_Same.f 12300 (togL (clsOf x.f1) (bothR x.f0 x.f1 x.f2 x.f3 x.f4) (I.ordL x.f1 (decAll x.f2 (a ++ b)))) _).bind _) = _
    rw [same_some _ _ (by omega) _ (by omega), Option.bind_some]
    simp
  · rw [c3]
    show (if e = 0 then _ else _) = _
    rw [if_neg he]
    rfl
end Go.Proofs.YtmjnipifpeehgaaDoor.Q
