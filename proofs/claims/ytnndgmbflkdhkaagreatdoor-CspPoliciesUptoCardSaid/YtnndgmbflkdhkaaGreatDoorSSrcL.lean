/- csp.Source, plain. -/
import Derived.Test.YtnndgmbflkdhkaaGreatDoorSSource
import Derived.Test.YtnndgmbflkdhkaaGreatDoorSB7
import Derived.Test.YtnndgmbflkdhkaaGreatDoorSB3
import Derived.Test.YtnndgmbflkdhkaaGreatDoorSB4
set_option linter.unusedSimpArgs false
set_option linter.unusedVariables false
namespace Go.Proofs.YtnndgmbflkdhkaaGreatDoor.Q
open Go.RowKit Go.Proofs.YtnndgmbflkdhkaaGreatDoorW.PrintWords Go.Proofs.YtnndgmbflkdhkaaGreatDoorW.PrintLast Go.Proofs.YtnndgmbflkdhkaaGreatDoorW.PrintMore Go.Proofs.YtnndgmbflkdhkaaGreatDoor.P1
def preB (p l : List UInt8) : Bool := l.take p.length == p
theorem preB_len {p l : List UInt8} (h : preB p l = true) : p.length ≤ l.length := by
  have := congrArg List.length (beq_iff_eq.1 h)
  rw [List.length_take] at this
  omega
theorem hasPre_lite (l p : List UInt8) : stringslite_HasPrefix.f (B l) (B p) = some (preB p l) := by
  unfold stringslite_HasPrefix.f preB
  rw [B_size, B_size]
  by_cases h : p.length ≤ l.length
  · rw [if_pos (by omega), if_pos (by omega), if_pos (by omega), Int.toNat_natCast, B_extract, B_toList, B_toList]
    simp
  · rw [if_neg (by omega)]
    congr 1
    symm
    rw [beq_eq_false_iff_ne]
    intro e
    have := congrArg List.length e
    rw [List.length_take] at this
    omega
theorem hasPrefix_f (l p : List UInt8) : strings_HasPrefix.f (B l) (B p) = some (preB p l) := by
  unfold strings_HasPrefix.f; rw [hasPre_lite]; rfl
theorem cutPrefix_f (l p : List UInt8) : strings_CutPrefix.f (B l) (B p) = some (if preB p l then (B (l.drop p.length), true) else (B l, false)) := by
  unfold strings_CutPrefix.f stringslite_CutPrefix.f
  rw [hasPre_lite]
  simp only [Option.bind_some]
  cases h : preB p l with
  | true =>
    have := preB_len h
    rw [if_pos rfl, B_size, B_size, if_pos (by omega), if_pos (by omega), Int.toNat_natCast, ← B_size l, B_extract_end]; rfl
  | false => rfl
theorem trimPrefix_f (l p : List UInt8) : strings_TrimPrefix.f (B l) (B p) = some (B (if preB p l then l.drop p.length else l)) := by
  unfold strings_TrimPrefix.f stringslite_TrimPrefix.f
  rw [hasPre_lite]
  simp only [Option.bind_some]
  cases h : preB p l with
  | true =>
    have := preB_len h
    rw [if_pos rfl, B_size, B_size, if_pos (by omega), if_pos (by omega), Int.toNat_natCast, ← B_size l, B_extract_end]; rfl
  | false => rfl
def sufB (p l : List UInt8) : Bool := decide (p.length ≤ l.length) && l.drop (l.length - p.length) == p
theorem cutSuffix_f (l p : List UInt8) (hl : l.length ≤ 140737488355328) : strings_CutSuffix.f (B l) (B p) = some (if sufB p l then (B (l.take (l.length - p.length)), true) else (B l, false)) := by
  unfold strings_CutSuffix.f stringslite_CutSuffix.f stringslite_HasSuffix.f sufB
  rw [B_size, B_size]
  by_cases h : p.length ≤ l.length
  · have hw : wrap64 ((l.length : Int) - (p.length : Int)) = ((l.length - p.length : Nat) : Int) := by rw [w64 (by omega) (by omega)]; omega
    rw [hw, if_pos (by omega), if_pos (by omega), if_pos (by omega), Int.toNat_natCast, ← B_size l, B_extract_end, B_size, B_toList, B_toList, decide_eq_true h]
    simp only [Option.bind_some, Bool.true_and]
    cases hd : (l.drop (l.length - p.length) == p) with
    | true =>
      rw [if_pos rfl, if_pos (by omega), if_pos (by omega), B_extract]
      simp
    | false => simp
  · rw [if_neg (by omega), decide_eq_false h]
    simp
def codedN (l : List UInt8) : Bool := decide (0 < spanN [43, 47, 45, 95] l) && (l.drop (spanN [43, 47, 45, 95] l) == [] || l.drop (spanN [43, 47, 45, 95] l) == [61] || l.drop (spanN [43, 47, 45, 95] l) == [61, 61])
theorem coded_f (l : List UInt8) (hl : l.length ≤ 140737488355328) (k : Nat) (hk : l.length < k) : csp_coded.f k (B l) = some (codedN l) := by
  unfold csp_coded.f codedN
  rw [show (⟨#[43, 47, 45, 95]⟩ : ByteArray) = B [43, 47, 45, 95] from rfl, span_f _ l hl k hk]
  have hle := spanN_le [43, 47, 45, 95] l
  generalize spanN [43, 47, 45, 95] l = n at *
  simp only [Option.bind_some]
  by_cases hn : 0 < n
  · rw [if_pos (by omega), if_pos (by omega), if_pos (by rw [B_size]; omega), Int.toNat_natCast, B_extract_end, B_toList, decide_eq_true hn]
    generalize l.drop n = t
    by_cases h1 : t = []
    · subst h1; rfl
    · rw [if_neg h1, beq_eq_false_iff_ne.2 h1]
      by_cases h2 : t = [61]
      · subst h2; rfl
      · rw [if_neg h2, beq_eq_false_iff_ne.2 h2]; simp
  · rw [if_neg (by omega), decide_eq_false hn]; rfl
theorem idxS (x : List UInt8) (ls : List (List UInt8)) (hn : ls.length ≤ 1048576) : ∀ (d k i : Nat), ls.length - i = d → d < k → i ≤ ls.length →
    ∃ r : Int, slices_Index_string_string.l0 k (ls.map B) (B x) (ls.length : Int) (i : Int) = some r ∧ decide (r ≥ 0) = (ls.drop i).contains x := by
  intro d
  induction d with
  | zero =>
    intro k i hd hk hi
    obtain ⟨k, rfl⟩ : ∃ m, k = m + 1 := ⟨k - 1, by omega⟩
    refine ⟨-1, ?_, ?_⟩
    · simp only [slices_Index_string_string.l0]
      rw [if_neg (by omega)]
    · rw [List.drop_of_length_le (by omega)]; rfl
  | succ d ih =>
    intro k i hd hk hi
    obtain ⟨k, rfl⟩ : ∃ m, k = m + 1 := ⟨k - 1, by omega⟩
    have hlt : i < ls.length := by omega
    have hr : rdOf ByteArray.empty (ls.map B) (i : Int) = B (ls[i]'hlt) := by
      unfold rdOf
      simp [List.getD_eq_getElem?_getD, hlt]
    simp only [slices_Index_string_string.l0]
    rw [if_pos (by omega), if_pos (by omega), if_pos (by rw [List.length_map]; omega), hr, B_toList, B_toList, List.drop_eq_getElem_cons hlt, List.contains_cons]
    by_cases he : x = ls[i]'hlt
    · rw [if_pos he]
      refine ⟨(i : Int), rfl, ?_⟩
      rw [beq_iff_eq.2 he, decide_eq_true (by omega)]; rfl
    · have hw : wrap64 ((i : Int) + 1) = ((i + 1 : Nat) : Int) := by rw [w64 (by omega) (by omega)]; omega
      rw [if_neg he, hw, beq_eq_false_iff_ne.2 he]
      obtain ⟨r, h1, h2⟩ := ih k (i + 1) (by omega) (by omega) (by omega)
      exact ⟨r, h1, by rw [h2]; rfl⟩
theorem containsS (x : List UInt8) (ls : List (List UInt8)) (hn : ls.length ≤ 1048576) (k : Nat) (hk : ls.length < k) : slices_Contains_string_string.f k (ls.map B) (B x) = some (ls.contains x) := by
  obtain ⟨r, h1, h2⟩ := idxS x ls hn ls.length k 0 (by omega) hk (by omega)
  unfold slices_Contains_string_string.f slices_Index_string_string.f
  rw [List.length_map]
  have h1' : slices_Index_string_string.l0 k (ls.map B) (B x) (ls.length : Int) 0 = some r := h1
  rw [h1']
  simp only [Option.bind_some]
  rw [h2, List.drop_zero]
def keyL : List (List UInt8) := keyWords.map (·.data.toList)
theorem keyL_eq : keyWords = keyL.map B := by decide +kernel
def srcQ (t : List UInt8) : Int × List UInt8 × List UInt8 × Bool :=
  if keyL.contains (low t) then (1, low t, [], true) else
    if preB ((Lib.cut (low t) [45]).1 ++ [45]) (low t) && codedN (if preB [45] (t.drop (Lib.cut (low t) [45]).1.length) then (t.drop (Lib.cut (low t) [45]).1.length).drop 1 else t.drop (Lib.cut (low t) [45]).1.length) then
      (if (Lib.cut (low t) [45]).1 = [110, 111, 110, 99, 101] then (2, (if preB [45] (t.drop (Lib.cut (low t) [45]).1.length) then (t.drop (Lib.cut (low t) [45]).1.length).drop 1 else t.drop (Lib.cut (low t) [45]).1.length), [], true)
       else if (Lib.cut (low t) [45]).1 = [115, 104, 97, 50, 53, 54] ∨ (Lib.cut (low t) [45]).1 = [115, 104, 97, 51, 56, 52] ∨ (Lib.cut (low t) [45]).1 = [115, 104, 97, 53, 49, 50] then (3, (if preB [45] (t.drop (Lib.cut (low t) [45]).1.length) then (t.drop (Lib.cut (low t) [45]).1.length).drop 1 else t.drop (Lib.cut (low t) [45]).1.length), (Lib.cut (low t) [45]).1, true)
       else (0, [], [], false))
    else (0, [], [], false)
def quoF (l : List UInt8) : Int × List UInt8 × List UInt8 × Bool :=
  if preB [39] l && sufB [39] (l.drop 1) then srcQ ((l.drop 1).take ((l.drop 1).length - 1)) else (0, [], [], false)
def q9 (x : Int × List UInt8 × List UInt8 × Bool) : Int × ByteArray × ByteArray × Bool × Int × Bool × Bool × ByteArray × Bool := (x.1, B x.2.1, B x.2.2.1, false, 0, false, false, B [], x.2.2.2)
theorem j1_f (h c : List UInt8) (b : Bool) (k : Nat) : csp_quoted.j1 (k + 1) (B h) (B c) (!b) = some (q9 (if b then (if h = [110, 111, 110, 99, 101] then (2, c, [], true) else if h = [115, 104, 97, 50, 53, 54] ∨ h = [115, 104, 97, 51, 56, 52] ∨ h = [115, 104, 97, 53, 49, 50] then (3, c, h, true) else (0, [], [], false)) else (0, [], [], false))) := by
  simp only [csp_quoted.j1, B_toList]
  cases b with
  | false => rfl
  | true =>
    rw [if_neg (by simp), if_pos rfl]
    by_cases h1 : h = [110, 111, 110, 99, 101]
    · rw [if_pos h1, if_pos h1]; rfl
    · rw [if_neg h1, if_neg h1]
      by_cases h2 : h = [115, 104, 97, 50, 53, 54]
      · rw [if_pos h2, if_pos (.inl h2)]; rfl
      · rw [if_neg h2]
        by_cases h3 : h = [115, 104, 97, 51, 56, 52]
        · rw [if_pos h3, if_pos (.inr (.inl h3))]; rfl
        · rw [if_neg h3]
          by_cases h4 : h = [115, 104, 97, 53, 49, 50]
          · rw [if_pos h4, if_pos (.inr (.inr h4))]; rfl
          · rw [if_neg h4, if_neg (by simp [h2, h3, h4])]; rfl
theorem cut_le (l s : List UInt8) : (Lib.cut l s).1.length ≤ l.length := by
  unfold Lib.cut
  split
  · simp [List.length_take]; omega
  · exact Nat.le_refl _
theorem quoted_j0 (t : List UInt8) (ht : t.length ≤ 1048576) (k : Nat) (hk : t.length + 20 < k) : csp_quoted.j0 (k + 1) (B t) false = some (q9 (srcQ t)) := by
  have hlow : pct_Lower.f (B t) = some (B (low t)) := lower_f t (by omega)
  have hcut : strings_Cut.f (B (low t)) (⟨#[45]⟩ : ByteArray) = some (B (Lib.cut (low t) [45]).1, B (Lib.cut (low t) [45]).2.1, (Lib.cut (low t) [45]).2.2) := by
    unfold strings_Cut.f
    rw [if_pos (by rw [B_size, low_length]; omega), B_data]
    rfl
  simp only [csp_quoted.j0]
  rw [if_neg (by simp), hlow]
  simp only [Option.bind_some, csp_keywords.f]
  rw [keyL_eq, containsS (low t) keyL (by decide) k (by have : keyL.length = 8 := by decide
                                                        omega)]
  simp only [Option.bind_some]
  unfold srcQ
  by_cases hc : keyL.contains (low t) = true
  · rw [if_pos hc, if_pos hc]; rfl
  · rw [if_neg hc, if_neg hc, hcut]
    simp only [Option.bind_some]
    have hle := cut_le (low t) [45]
    rw [low_length] at hle
    generalize (Lib.cut (low t) [45]).1 = h at *
    rw [B_size, B_size, if_pos (by omega), if_pos (by omega), Int.toNat_natCast, ← B_size t, B_extract_end, show (⟨#[45]⟩ : ByteArray) = B [45] from rfl, trimPrefix_f]
    simp only [Option.bind_some]
    rw [if_pos (by omega), B_append, hasPrefix_f]
    simp only [Option.bind_some]
    have e1 : (if preB [45] (t.drop h.length) = true then (t.drop h.length).drop ([45] : List UInt8).length else t.drop h.length) = (if preB [45] (t.drop h.length) = true then (t.drop h.length).drop 1 else t.drop h.length) := rfl
    rw [e1]
    have hlc : (if preB [45] (t.drop h.length) = true then (t.drop h.length).drop 1 else t.drop h.length).length ≤ t.length := by
      split <;> simp <;> omega
    generalize (if preB [45] (t.drop h.length) = true then (t.drop h.length).drop 1 else t.drop h.length) = c at *
    obtain ⟨k, rfl⟩ : ∃ m, k = m + 1 := ⟨k - 1, by omega⟩
    cases hp : preB (h ++ [45]) (low t) with
    | true =>
      rw [if_pos rfl, coded_f c (by omega) (k + 1) (by omega)]
      simp only [Option.bind_some, Bool.true_and]
      exact j1_f h c (codedN c) k
    | false =>
      rw [if_neg (by simp)]
      have := j1_f h c false k
      simpa using this
theorem quoted_f (l : List UInt8) (hl : l.length ≤ 1048576) (k : Nat) (hk : l.length + 20 < k) : csp_quoted.f (k + 1) (B l) = some (q9 (quoF l)) := by
  unfold csp_quoted.f quoF
  rw [show (⟨#[39]⟩ : ByteArray) = B [39] from rfl, cutPrefix_f]
  simp only [Option.bind_some]
  cases hp : preB [39] l with
  | true =>
    simp only [if_true, Bool.true_and]
    have hd : (l.drop ([39] : List UInt8).length) = l.drop 1 := rfl
    rw [hd, cutSuffix_f _ _ (by simp; omega)]
    simp only [Option.bind_some]
    cases hs : sufB [39] (l.drop 1) with
    | true =>
      simp only [if_true, Bool.not_true]
      exact quoted_j0 _ (by simp; omega) k (by simp; omega)
    | false => simp only [Bool.false_eq_true, if_false, Bool.not_false]; simp only [csp_quoted.j0, if_true]; rfl
  | false =>
    simp only [Bool.false_eq_true, if_false, Bool.false_and]
    rw [cutSuffix_f _ _ (by omega)]
    simp only [Option.bind_some, csp_quoted.j0, if_true]
    rfl
def schF (l : List UInt8) : List UInt8 × Bool := (low (l.take (schN l)), decide (0 < schN l) && l.drop (schN l) == [58])
theorem schemed_f (l : List UInt8) (hl : l.length ≤ 1048576) (k : Nat) (hk : l.length < k) : csp_schemed.f k (B l) = some (4, B [], B (schF l).1, false, 0, false, false, B [], (schF l).2) := by
  unfold csp_schemed.f schF
  rw [scheme_f l (by omega) k hk]
  have hle := schN_le l
  generalize schN l = n at *
  simp only [Option.bind_some]
  rw [if_pos (by omega), if_pos (by rw [B_size]; omega), Int.toNat_natCast, B_extract, List.drop_zero, Nat.sub_zero, lower_f _ (by rw [List.length_take]; omega)]
  simp only [Option.bind_some]
  by_cases hn : 0 < n
  · rw [if_pos (by omega), B_extract_end, B_toList, decide_eq_true hn]; rfl
  · rw [if_neg (by omega), decide_eq_false hn]; rfl
/-- what Source answers -/
def srcF (l : List UInt8) : Int × List UInt8 × List UInt8 × Bool × Int × Bool × Bool × List UInt8 × Int :=
  if l.length ≤ 4096 then
    (if (quoF l).2.2.2 then ((quoF l).1, (quoF l).2.1, (quoF l).2.2.1, false, 0, false, false, [], 0)
     else if (schF l).2 then (4, [], (schF l).1, false, 0, false, false, [], 0)
     else if (hostF l).2.2.2.2.2.2.2 then (5, (hostF l).1, (hostF l).2.1, (hostF l).2.2.1, (hostF l).2.2.2.1, (hostF l).2.2.2.2.1, (hostF l).2.2.2.2.2.1, (hostF l).2.2.2.2.2.2.1, 0)
     else (0, [], [], false, 0, false, false, [], 20))
  else (0, [], [], false, 0, false, false, [], 4)
theorem source_f (l : List UInt8) (k : Nat) (hk : 5000 < k) : csp_Source.f (k + 1) (B l) = some ((srcF l).1, B (srcF l).2.1, B (srcF l).2.2.1, (srcF l).2.2.2.1, (srcF l).2.2.2.2.1, (srcF l).2.2.2.2.2.1, (srcF l).2.2.2.2.2.2.1, B (srcF l).2.2.2.2.2.2.2.1, (srcF l).2.2.2.2.2.2.2.2) := by
  unfold csp_Source.f srcF
  rw [B_size]
  by_cases hl : l.length ≤ 4096
  · rw [if_pos hl, if_pos hl, quoted_f l (by omega) k (by omega), schemed_f l (by omega) (k + 1) (by omega)]
    unfold csp_hosted.f q9
    rw [B_size, if_pos (by omega), B_data]
    simp only [Option.bind_some]
    cases (quoF l).2.2.2 with
    | true => rfl
    | false =>
      cases (schF l).2 with
      | true => rfl
      | false =>
        cases (hostF l).2.2.2.2.2.2.2 with
        | true => rfl
        | false => rfl
  · rw [if_neg hl, if_neg hl]; rfl
end Go.Proofs.YtnndgmbflkdhkaaGreatDoor.Q
