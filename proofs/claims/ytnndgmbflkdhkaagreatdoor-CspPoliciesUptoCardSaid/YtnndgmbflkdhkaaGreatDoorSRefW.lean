/- The document's words, pieces, Find, Check, Text, plain: they are csp's. -/
import Derived.Test.YtnndgmbflkdhkaaGreatDoorSB8
import Derived.Test.YtnndgmbflkdhkaaGreatDoorSFields
import Derived.Test.YtnndgmbflkdhkaaGreatDoorSSplit
import Derived.Test.YtnndgmbflkdhkaaGreatDoorSCheck
import Derived.Test.YtnndgmbflkdhkaaGreatDoorSFind
import Derived.Test.YtnndgmbflkdhkaaGreatDoorSB11
import Derived.Test.YtnndgmbflkdhkaaGreatDoorSQbastionref14wordsA
import Derived.Test.YtnndgmbflkdhkaaGreatDoorSQbastionref14splitA
import Derived.Test.YtnndgmbflkdhkaaGreatDoorSQbastionref14FindA
import Derived.Test.YtnndgmbflkdhkaaGreatDoorSQbastionref14CheckA
import Derived.Test.YtnndgmbflkdhkaaGreatDoorSQbastionref14TextA
set_option linter.unusedSimpArgs false
set_option linter.unusedVariables false
namespace Go.Proofs.YtnndgmbflkdhkaaGreatDoor.Q
open Go.RowKit Go.Proofs.YtnndgmbflkdhkaaGreatDoorW.PrintWords Go.Proofs.YtnndgmbflkdhkaaGreatDoorW.PrintLast Go.Proofs.YtnndgmbflkdhkaaGreatDoorW.PrintMore Go.Proofs.YtnndgmbflkdhkaaGreatDoor.P1
theorem blankR (c : UInt8) : bastionref14_blank.f (c.toNat : Int) = some (bl c) := all_c (p := fun c => bastionref14_blank.f (c.toNat : Int) = some (bl c)) (by decide +kernel) c
theorem take_more (l : List UInt8) (a i : Nat) (h : i < l.length) (ha : a ≤ i) : (l.drop a).take (i + 1 - a) = (l.drop a).take (i - a) ++ [l[i]] := by
  rw [show i + 1 - a = (i - a) + 1 from by omega, List.take_add_one, List.getElem?_drop, show a + (i - a) = i from by omega, List.getElem?_eq_getElem h]
  rfl
theorem take_nil_iff (l : List UInt8) (a i : Nat) (h : i ≤ l.length) (ha : a ≤ i) : (l.drop a).take (i - a) = [] ↔ a = i := by
  rw [List.eq_nil_iff_length_eq_zero, List.length_take, List.length_drop]
  omega
theorem wordsR_l (l : List UInt8) (hl : l.length ≤ 1048576) : ∀ (n k i a : Nat) (acc : List ByteArray), l.length - i = n → 2 * n + 4 < k → i ≤ l.length → a ≤ i → acc.length ≤ i →
    bastionref14_words.l0 k (B l) acc (a : Int) (i : Int) = some (acc ++ (wordsGo ((l.drop a).take (i - a)) (l.drop i)).map B)
  | 0, k, i, a, acc, hn, hk, hi, ha, hc => by
    obtain ⟨k, rfl⟩ : ∃ m, k = m + 3 := ⟨k - 3, by omega⟩
    have q1 : (i : Int) ≤ ((B l).size : Int) := by rw [B_size]; omega
    have q2 : ¬ (i : Int) < ((B l).size : Int) := by rw [B_size]; omega
    have q3 : ¬ ((i + 1 : Nat) : Int) ≤ ((B l).size : Int) := by rw [B_size]; omega
    have q4 : (0 : Int) ≤ (a : Int) := by omega
    have q5 : (a : Int) ≤ (i : Int) := by omega
    have q6 : acc.length < 8796093022208 := by omega
    have hw : wrap64 ((i : Int) + 1) = ((i + 1 : Nat) : Int) := by rw [w64 (by omega) (by omega)]; omega
    have hdrop : l.drop i = [] := List.drop_eq_nil_of_le (by omega)
    simp only [bastionref14_words.l0, bastionref14_words.j1, if_pos q1, if_neg q2, hw, if_neg q3, if_pos q4, if_pos q5, if_pos q6, Bool.false_eq_true, if_false, Int.toNat_natCast, B_extract, hdrop]
    clear hw
    have hx := take_nil_iff l a i hi ha
    unfold wordsGo
    by_cases hai : (i : Int) > (a : Int)
    · rw [if_pos hai, if_neg (fun h => by have := hx.1 h; omega)]
      rfl
    · rw [if_neg hai, if_pos (hx.2 (by omega))]
      simp
  | n + 1, k, i, a, acc, hn, hk, hi, ha, hc => by
    obtain ⟨k, rfl⟩ : ∃ m, k = m + 2 := ⟨k - 2, by omega⟩
    have hlt : i < l.length := by omega
    have q1 : (i : Int) ≤ ((B l).size : Int) := by rw [B_size]; omega
    have q2 : (i : Int) < ((B l).size : Int) := by rw [B_size]; omega
    have q3 : (0 : Int) ≤ (i : Int) := by omega
    have q4 : (0 : Int) ≤ (a : Int) := by omega
    have q5 : (a : Int) ≤ (i : Int) := by omega
    have q6 : acc.length < 8796093022208 := by omega
    have go := fun a' acc' h1 h2 => wordsR_l l hl n k (i + 1) a' acc' (by omega) (by omega) (by omega) h1 h2
    have hx := take_nil_iff l a i hi ha
    have hm := take_more l a i hlt ha
    have hd := List.drop_eq_getElem_cons hlt
    have hai : (i : Int) > (a : Int) ↔ ¬ (l.drop a).take (i - a) = [] := by rw [hx]; omega
    have g0 := fun acc' h2 => go (i + 1) acc' (Nat.le_refl _) h2
    have g1 := go a acc (by omega) (by omega)
    have g2 := g0 (acc ++ [B ((l.drop a).take (i - a))]) (by rw [List.length_append, List.length_singleton]; omega)
    have g3 := g0 acc (by omega)
    have hw : wrap64 ((i : Int) + 1) = ((i + 1 : Nat) : Int) := by rw [w64 (by omega) (by omega)]; omega
    simp only [bastionref14_words.l0, if_pos q1, if_pos q2, if_pos q3]
    rw [bt_at' l hlt, blankR]
    simp only [Option.bind_some, bastionref14_words.j1, hw, if_pos q4, if_pos q5, if_pos q1, if_pos q6, Int.toNat_natCast, B_extract]
    clear hw
    rw [g1, g2, g3, hm, hd, Nat.sub_self, List.take_zero]
    generalize (l.drop a).take (i - a) = cur at *
    conv => rhs; unfold wordsGo
    cases hb : bl l[i] with
    | true =>
      simp only [Bool.not_true, Bool.false_eq_true, if_false, if_true]
      by_cases hcur : cur = []
      · rw [if_neg (fun h => (hai.1 h) hcur), if_pos hcur]
      · rw [if_pos (hai.2 hcur), if_neg hcur]
        simp
    | false => simp
theorem wordsR (l : List UInt8) (hl : l.length ≤ 1048576) (k : Nat) (hk : 2 * l.length + 4 < k) : bastionref14_words.f k (B l) = some ((wordsL l).map B) := by
  have h := wordsR_l l hl l.length k 0 0 [] (by omega) hk (by omega) (by omega) (by simp)
  exact h
/-- pieces, what stands before said -/
def partsGo (c : UInt8) : List UInt8 → List UInt8 → List (List UInt8)
  | cur, [] => [cur]
  | cur, b :: r => if b = c then cur :: partsGo c [] r else partsGo c (cur ++ [b]) r
theorem partsGo_eq (c : UInt8) : ∀ (l cur : List UInt8), ∃ p ps, parts c l = p :: ps ∧ partsGo c cur l = (cur ++ p) :: ps
  | [], cur => ⟨[], [], rfl, by unfold partsGo; simp⟩
  | b :: r, cur => by
    unfold partsGo
    rw [parts_cons]
    by_cases hb : b = c
    · obtain ⟨p, ps, h1, h2⟩ := partsGo_eq c r []
      exact ⟨[], parts c r, by rw [if_pos hb], by rw [if_pos hb, h2, h1]; simp⟩
    · obtain ⟨p, ps, h1, h2⟩ := partsGo_eq c r (cur ++ [b])
      exact ⟨b :: p, ps, by rw [if_neg hb, h1], by rw [if_neg hb, h2]; simp⟩
theorem splitR_l (l : List UInt8) (c : UInt8) (hl : l.length ≤ 1048576) : ∀ (n k i a : Nat) (acc : List ByteArray), l.length - i = n → n + 3 < k → i ≤ l.length → a ≤ i → acc.length ≤ i →
    bastionref14_split.l0 k (B l) (c.toNat : Int) acc (a : Int) (i : Int) = some (acc ++ (partsGo c ((l.drop a).take (i - a)) (l.drop i)).map B)
  | 0, k, i, a, acc, hn, hk, hi, ha, hc => by
    obtain ⟨k, rfl⟩ : ∃ m, k = m + 2 := ⟨k - 2, by omega⟩
    have q1 : (i : Int) ≤ ((B l).size : Int) := by rw [B_size]; omega
    have q2 : (i : Int) = ((B l).size : Int) := by rw [B_size]; omega
    have q3 : ¬ ((i + 1 : Nat) : Int) ≤ ((B l).size : Int) := by rw [B_size]; omega
    have q4 : (0 : Int) ≤ (a : Int) := by omega
    have q5 : (a : Int) ≤ (i : Int) := by omega
    have q6 : acc.length < 8796093022208 := by omega
    have hw : wrap64 ((i : Int) + 1) = ((i + 1 : Nat) : Int) := by rw [w64 (by omega) (by omega)]; omega
    have hdrop : l.drop i = [] := List.drop_eq_nil_of_le (by omega)
    simp only [bastionref14_split.l0]
    rw [if_pos q1, if_pos q2, if_pos q4, if_pos q5, if_pos q6, hw, if_neg q3, Int.toNat_natCast, Int.toNat_natCast, B_extract, hdrop]
    rfl
  | n + 1, k, i, a, acc, hn, hk, hi, ha, hc => by
    obtain ⟨k, rfl⟩ : ∃ m, k = m + 1 := ⟨k - 1, by omega⟩
    have hlt : i < l.length := by omega
    have q1 : (i : Int) ≤ ((B l).size : Int) := by rw [B_size]; omega
    have q2 : ¬ (i : Int) = ((B l).size : Int) := by rw [B_size]; omega
    have q2' : (i : Int) < ((B l).size : Int) := by rw [B_size]; omega
    have q3 : (0 : Int) ≤ (i : Int) := by omega
    have q4 : (0 : Int) ≤ (a : Int) := by omega
    have q5 : (a : Int) ≤ (i : Int) := by omega
    have q6 : acc.length < 8796093022208 := by omega
    have go := fun a' acc' h1 h2 => splitR_l l c hl n k (i + 1) a' acc' (by omega) (by omega) (by omega) h1 h2
    have hm := take_more l a i hlt ha
    have hd := List.drop_eq_getElem_cons hlt
    have g1 := go a acc (by omega) (by omega)
    have g2 := go (i + 1) (acc ++ [B ((l.drop a).take (i - a))]) (Nat.le_refl _) (by rw [List.length_append, List.length_singleton]; omega)
    have ec : ((l[i].toNat : Int) = (c.toNat : Int)) = (l[i] = c) := by
      apply propext
      constructor
      · intro h; exact UInt8.toNat_inj.1 (by omega)
      · intro h; rw [h]
    have hw : wrap64 ((i : Int) + 1) = ((i + 1 : Nat) : Int) := by rw [w64 (by omega) (by omega)]; omega
    simp only [bastionref14_split.l0]
    rw [if_pos q1, if_neg q2, if_pos q3, if_pos q2', bt_at' l hlt, if_pos q4, if_pos q5, if_pos q6, hw, Int.toNat_natCast, Int.toNat_natCast, B_extract]
    clear hw
    rw [g1, g2, hm, hd, Nat.sub_self, List.take_zero]
    simp only [ec]
    conv => rhs; unfold partsGo
    by_cases hb : l[i] = c
    · rw [if_pos hb, if_pos hb]; simp
    · rw [if_neg hb, if_neg hb]
theorem splitR (l : List UInt8) (c : UInt8) (hl : l.length ≤ 1048576) (k : Nat) (hk : l.length + 3 < k) : bastionref14_split.f k (B l) (c.toNat : Int) = some ((parts c l).map B) := by
  have h := splitR_l l c hl l.length k 0 0 [] (by omega) hk (by omega) (by omega) (by simp)
  obtain ⟨p, ps, h1, h2⟩ := partsGo_eq c l []
  simp only [List.drop_zero, Nat.sub_zero, List.take_zero, List.nil_append] at h h2
  rw [h2, ← h1] at h
  exact h
theorem rd35_get {l : List S35} {i : Nat} (h : i < l.length) : rd_T35 l (i : Int) = l[i] := by
  unfold rd_T35
  simp [List.getD_eq_getElem?_getD, h]
theorem findR_l (l : List S35) (name : ByteArray) (hl : l.length ≤ 1048576) (hv : ∀ d ∈ l, d.f1.length ≤ 1048576) : ∀ (n k i : Nat), l.length - i = n → n < k → i ≤ l.length →
    bastionref14_Find.l0 k name l (l.length : Int) (i : Int) = some (findF (l.drop i) name)
  | 0, k, i, hn, hk, hi => by
    obtain ⟨k, rfl⟩ : ∃ m, k = m + 1 := ⟨k - 1, by omega⟩
    have q : ¬ (i : Int) < (l.length : Int) := by omega
    simp only [bastionref14_Find.l0]
    rw [if_neg q, List.drop_eq_nil_of_le (by omega)]
    rfl
  | n + 1, k, i, hn, hk, hi => by
    obtain ⟨k, rfl⟩ : ∃ m, k = m + 1 := ⟨k - 1, by omega⟩
    have hlt : i < l.length := by omega
    have q : (i : Int) < (l.length : Int) := by omega
    have q0 : (0 : Int) ≤ (i : Int) := by omega
    have ih := findR_l l name hl hv n k (i + 1) (by omega) (by omega) (by omega)
    have hv1 := hv l[i] (List.getElem_mem hlt)
    have q6 : 0 + l[i].f1.length < 8796093022208 := by omega
    simp only [bastionref14_Find.l0]
    rw [if_pos q, if_pos q0, if_pos q, rd35_get hlt, w64s hlt (by omega), ih, List.drop_eq_getElem_cons hlt]
    unfold findF
    rw [List.find?_cons]
    by_cases h : l[i].f0.toList = name.toList
    · have hb : (l[i].f0.toList == name.toList) = true := by simpa using h
      rw [if_pos h, hb]
      simp only [Option.bind_some, List.length_nil, if_pos q6, List.nil_append]
    · have hb : (l[i].f0.toList == name.toList) = false := by simpa using h
      rw [if_neg h, hb]
theorem findR (l : List S35) (r : Bool) (name : ByteArray) (hl : l.length ≤ 1048576) (hv : ∀ d ∈ l, d.f1.length ≤ 1048576) (k : Nat) (hk : l.length < k) : bastionref14_Find.f k l r name = some (findF l name) :=
  findR_l l name hl hv l.length k 0 (by omega) hk (by omega)
end Go.Proofs.YtnndgmbflkdhkaaGreatDoor.Q
