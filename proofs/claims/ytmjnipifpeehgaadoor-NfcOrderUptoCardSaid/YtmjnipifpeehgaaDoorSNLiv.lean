/- What the document's examples of layer 4 give: lives holds. -/
import Derived.Test.YtmjnipifpeehgaaDoorSNTog
import Derived.Test.YtmjnipifpeehgaaDoorSNApt
import Derived.Test.YtmjnipifpeehgaaDoorSNOrd
import Derived.Test.YtmjnipifpeehgaaDoorSQnfc2
import Derived.Test.YtmjnipifpeehgaaDoorSQbastionref020
import Derived.Test.YtmjnipifpeehgaaDoorSQbastionlaw042
set_option linter.unusedSimpArgs false
set_option linter.unusedVariables false
namespace Go.Proofs.YtmjnipifpeehgaaDoor.Q
open Go.RowKit Go.Proofs.YtmjnipifpeehgaaDoorW.PrintWords Go.Proofs.YtmjnipifpeehgaaDoorW.PrintLast Go.Proofs.YtmjnipifpeehgaaDoorW.PrintMore
open St in
theorem segGo_length (cls : Int → Nat) : ∀ l cur : List Int, (segGo cls cur l).length = cur.length + l.length
  | [], cur => by rw [segGo, I.stab_length]; rfl
  | x :: t, cur => by
    rw [segGo]
    split
    · rw [List.length_append, List.length_cons, I.stab_length, segGo_length cls t []]; simp
    · rw [segGo_length cls t (cur ++ [x])]; simp; omega
theorem ordL_length (l : List S43) (m : List Int) : (I.ordL l m).length = m.length := by
  unfold I.ordL
  rw [segGo_length]; simp
theorem same_loop (x y : List Int) (hxy : x.length = y.length) (hl : x.length ≤ 1099511627776) : ∀ (n i k : Nat), i + n = x.length → n + 1 ≤ k → bastionref02_Same.l0 k x y (x.length : Int) (i : Int) = some (x.drop i == y.drop i) := by
  intro n
  induction n with
  | zero =>
    intro i k hi hk
    obtain ⟨k, rfl⟩ : ∃ k', k = k' + 1 := ⟨k - 1, by omega⟩
    rw [bastionref02_Same.l0, if_neg (by omega), List.drop_of_length_le (by omega), List.drop_of_length_le (by omega)]
    rfl
  | succ n ih =>
    intro i k hi hk
    obtain ⟨k, rfl⟩ : ∃ k', k = k' + 1 := ⟨k - 1, by omega⟩
    have h1 : i < x.length := by omega
    have h2 : i < y.length := by omega
    have e1 : rd x (i : Int) = x[i] := by simp [rd, List.getD_eq_getElem?_getD, h1]
    have e2 : rd y (i : Int) = y[i] := by simp [rd, List.getD_eq_getElem?_getD, h2]
    have hn1 : i + 1 + n = x.length := by omega
    have hk1 : n + 1 ≤ k := by omega
    rw [bastionref02_Same.l0, if_pos (by omega), if_pos (by omega), if_pos (by omega), if_pos (by omega), e1, e2]
    have d1 : x.drop i = x[i] :: x.drop (i + 1) := List.drop_eq_getElem_cons h1
    have d2 : y.drop i = y[i] :: y.drop (i + 1) := List.drop_eq_getElem_cons h2
    by_cases e : x[i] = y[i]
    · have hw : wrap64 ((i : Int) + 1) = ((i + 1 : Nat) : Int) := by unfold wrap64; omega
      rw [if_pos e, hw, ih (i + 1) k hn1 hk1, d1, d2, List.cons_beq_cons, e]
      simp
    · rw [if_neg e, d1, d2, List.cons_beq_cons, beq_eq_false_iff_ne.2 e]
      rfl
theorem same_some (x y : List Int) (hl : x.length ≤ 1099511627776) (k : Nat) (hk : x.length + 1 ≤ k) : bastionref02_Same.f k x y = some (x == y) := by
  unfold bastionref02_Same.f
  by_cases h : x.length = y.length
  · rw [if_pos (by omega)]
    have := same_loop x y h hl x.length 0 k (by omega) hk
    rw [List.drop_zero, List.drop_zero] at this
    exact this
  · rw [if_neg (by omega)]
    have : (x == y) = false := by
      rw [beq_eq_false_iff_ne]
      exact fun e => h (by rw [e])
    rw [this]
theorem may_eq (a : Int) : mayF a = (Lib.validD (Utf8.encode a).data.toList && (a == 65533 || (Utf8.encode a).data.toList != [239, 191, 189])) := by
  unfold mayF tables_may.f utf_Valid.f
  rw [if_pos (by have := encode_small a; omega), Option.bind_some, Go.ByteArray.toList_eq]
  cases Lib.validD (Utf8.encode a).data.toList with
  | false => rfl
  | true =>
    rw [if_pos rfl]
    by_cases h : a = 65533
    · rw [if_pos h, h]; rfl
    · rw [if_neg h, beq_eq_false_iff_ne.2 h]; rfl
theorem may97 : mayF 97 = true := by rw [may_eq]; decide
theorem may769 : mayF 769 = true := by rw [may_eq]; decide
theorem may940 : mayF 940 = true := by rw [may_eq]; decide
def lc : List Cl := [⟨769, 230⟩]
def lp : List Pa := [⟨940, 97, 769, false⟩]
theorem chk1 : chk [] lc lp [] [] = 0 := by
  have h1 : okClasses lc = true := by simp [okClasses, lc, rightG, endsOk, clsFine, may769]
  have h2 : okPairs lp = true := by simp [okPairs, lp, rightG, endsOk, pairFine, may940, may97, may769]
  unfold chk tabOk
  rw [h1, h2]
  rfl
theorem chk0 : chk [] [] [] [] [] = 0 := rfl
theorem syl_no (r : Int) (h0 : 0 ≤ r) (h : r < 44032) : isSyl r = false := by
  unfold isSyl sylS
  rw [decide_eq_false (show ¬ 0 ≤ wrap32 (r - 44032) from by unfold wrap32; omega)]
  rfl
theorem apt1 : apt [] lc lp [] [] [940] = ([97, 769], 0) := by
  have hd : decAll lp [940] = [97, 769] := by
    show dec lp (940 + 1) 940 ++ [] = _
    rw [List.append_nil, dec, syl_no 940 (by decide) (by decide), if_neg (by decide), show pairOf lp 940 = some ⟨940, 97, 769, false⟩ from rfl]
    show dec lp (939 + 1) 97 ++ (if (769 : Int) = 0 then [] else dec lp (939 + 1) 769) = _
    rw [if_neg (by decide), dec, dec, syl_no 97 (by decide) (by decide), syl_no 769 (by decide) (by decide), if_neg (by decide), if_neg (by decide)]
    rfl
  unfold apt
  rw [chk1, if_pos rfl, if_pos (by decide), hd]
  rfl
theorem dec_plain (l : List Pa) (r : Int) (h0 : 0 ≤ r) (h : r < 44032) (hp : pairOf l r = none) (f : Nat) : dec l (f + 1) r = [r] := by
  rw [dec, syl_no r h0 h, if_neg (by decide), hp]
theorem apt2 : apt [] lc lp [] [] [97, 769] = ([97, 769], 0) := by
  have hd : decAll lp [97, 769] = [97, 769] := by
    show dec lp (97 + 1) 97 ++ (dec lp (769 + 1) 769 ++ []) = _
    rw [dec_plain lp 97 (by decide) (by decide) rfl, dec_plain lp 769 (by decide) (by decide) rfl]
    rfl
  unfold apt
  rw [chk1, if_pos rfl, if_pos (by decide), hd]
  rfl
theorem apt3 : apt [] [] [] [] [] [4352, 4449, 4520] = ([4352, 4449, 4520], 0) := by
  have hd : decAll [] [4352, 4449, 4520] = [4352, 4449, 4520] := by
    show dec [] (4352 + 1) 4352 ++ (dec [] (4449 + 1) 4449 ++ (dec [] (4520 + 1) 4520 ++ [])) = _
    rw [dec_plain [] 4352 (by decide) (by decide) rfl, dec_plain [] 4449 (by decide) (by decide) rfl, dec_plain [] 4520 (by decide) (by decide) rfl]
    rfl
  unfold apt
  rw [chk0, if_pos rfl, if_pos (by decide), hd]
  rfl
open St in
theorem ord2 : I.ordL lc [97, 769] = [97, 769] := by
  unfold I.ordL
  rw [segGo, if_pos (show I.clsN lc 97 = 0 from rfl), segGo, if_neg (show ¬ I.clsN lc 769 = 0 from by decide)]
  show stab _ [] ++ 97 :: stab _ [769] = _
  show [] ++ 97 :: mrg _ [769] [] = _
  rw [mrg_nil_right]
  rfl
open St in
theorem ord3 : I.ordL [] [4352, 4449, 4520] = [4352, 4449, 4520] := by
  unfold I.ordL
  rw [segGo, if_pos (show I.clsN [] 4352 = 0 from rfl), segGo, if_pos (show I.clsN [] 4449 = 0 from rfl), segGo, if_pos (show I.clsN [] 4520 = 0 from rfl)]
  rfl
theorem tog2_ : togL (clsOf lc) (bothR [] lc lp [] []) [97, 769] = [940] := by decide +kernel
theorem tog3_ : togL (clsOf []) (bothR [] [] [] [] []) [4352, 4449, 4520] = [44033] := by decide +kernel
theorem form_some (l0 : List Sp) (l1 : List Cl) (l2 : List Pa) (l3 : List Wa) (l4 : List Jo) (h1 : l1.length ≤ 1073741824) (h2 : l2.length ≤ 1073741824) (hc : clsOk l1 = true) (hp : pairsWf l2 = true) (l : List Int) (k : Nat) (hk : 12289 ≤ k) :
    nfc_Form.f k l0 l1 l2 l3 l4 l = some (if (apt l0 l1 l2 l3 l4 l).2 = 0 then (togL (clsOf l1) (bothR l0 l1 l2 l3 l4) (I.ordL l1 (apt l0 l1 l2 l3 l4 l).1), 0) else ([], (apt l0 l1 l2 l3 l4 l).2)) := by
  have hap : nfc_Apart.f l0 l1 l2 l3 l4 l = some (apt l0 l1 l2 l3 l4 l) := by unfold nfc_Apart.f; rw [if_pos hp]
  unfold nfc_Form.f
  rw [hap, Option.bind_some]
  by_cases h : (apt l0 l1 l2 l3 l4 l).2 = 0
  · rw [if_pos h, if_pos h]
    have hlen : (apt l0 l1 l2 l3 l4 l).1.length ≤ 4096 := by
      unfold apt
      repeat' split
      all_goals first | assumption | simp
    have hol : (I.ordL l1 (apt l0 l1 l2 l3 l4 l).1).length = (apt l0 l1 l2 l3 l4 l).1.length := ordL_length _ _
    have ho : nfc_Ordered.f l0 l1 l2 l3 l4 (apt l0 l1 l2 l3 l4 l).1 = some (I.ordL l1 (apt l0 l1 l2 l3 l4 l).1) := by unfold nfc_Ordered.f; rw [if_pos ⟨h1, by omega, hc⟩]
    rw [ho, Option.bind_some, together_some l0 l1 l2 l3 l4 h1 h2 _ (by omega) k (by omega), Option.bind_some]
  · rw [if_neg h, if_neg h]
theorem lives_some (k : Nat) (hk : 12289 ≤ k) : bastionlaw04_lives.f k = some true := by
  unfold bastionlaw04_lives.f
  rw [Option.bind_some, Option.bind_some]
  rw [show nfc_Apart.f ([] : List Sp) [(⟨769, 230⟩ : Cl)] [(⟨940, 97, 769, false⟩ : Pa)] [] [] [940] = some (apt [] lc lp [] [] [940]) from by unfold nfc_Apart.f; rw [if_pos (by decide)]; rfl, Option.bind_some]
  rw [show nfc_Form.f k ([] : List Sp) [(⟨769, 230⟩ : Cl)] [(⟨940, 97, 769, false⟩ : Pa)] [] [] [97, 769] = _ from form_some [] lc lp [] [] (by decide) (by decide) (by decide) (by decide) [97, 769] k hk, Option.bind_some]
  rw [form_some [] [] [] [] [] (by decide) (by decide) (by decide) (by decide) [4352, 4449, 4520] k hk, Option.bind_some]
  rw [apt1, apt2, apt3, if_pos rfl, if_pos rfl, ord2, ord3, tog2_, tog3_]
  rw [same_some _ _ (by decide) k (by simp; omega), Option.bind_some, if_pos (by decide), if_pos rfl, same_some _ _ (by decide) k (by simp; omega), Option.bind_some, if_pos (by decide), if_pos rfl, same_some _ _ (by decide) k (by simp; omega), Option.bind_some, if_pos (by decide)]
  rfl
end Go.Proofs.YtmjnipifpeehgaaDoor.Q
