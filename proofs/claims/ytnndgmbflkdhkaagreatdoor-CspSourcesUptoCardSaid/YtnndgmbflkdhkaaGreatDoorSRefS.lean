/- The document's answers on source expressions, plain: letters, schemes, names, nonces. -/
import Derived.Test.YtnndgmbflkdhkaaGreatDoorSSrcL
import Derived.Test.YtnndgmbflkdhkaaGreatDoorSQbastionref14nameA
import Derived.Test.YtnndgmbflkdhkaaGreatDoorSQbastionref14schemeA
import Derived.Test.YtnndgmbflkdhkaaGreatDoorSQbastionref14quotedA
set_option linter.unusedSimpArgs false
set_option linter.unusedVariables false
namespace Go.Proofs.YtnndgmbflkdhkaaGreatDoor.Q
open Go.RowKit Go.Proofs.YtnndgmbflkdhkaaGreatDoorW.PrintWords Go.Proofs.YtnndgmbflkdhkaaGreatDoorW.PrintLast Go.Proofs.YtnndgmbflkdhkaaGreatDoorW.PrintMore Go.Proofs.YtnndgmbflkdhkaaGreatDoor.P1
theorem letterR (c : UInt8) : bastionref14_letter.f (c.toNat : Int) = some (isAl c) := all_c (p := fun c => bastionref14_letter.f (c.toNat : Int) = some (isAl c)) (by decide +kernel) c
theorem digitR (c : UInt8) : bastionref14_digit.f (c.toNat : Int) = some (dig c) := all_c (p := fun c => bastionref14_digit.f (c.toNat : Int) = some (dig c)) (by decide +kernel) c
theorem lowC_num (c : UInt8) : ((lowC c).toNat : Int) = if (c.toNat : Int) ≥ 65 then (if (c.toNat : Int) ≤ 90 then ((c.toNat : Int) + 32) % 256 else c.toNat) else c.toNat :=
  all_c (p := fun c => ((lowC c).toNat : Int) = if (c.toNat : Int) ≥ 65 then (if (c.toNat : Int) ≤ 90 then ((c.toNat : Int) + 32) % 256 else c.toNat) else c.toNat) (by decide +kernel) c
theorem bt_at' (l : List UInt8) {i : Nat} (h : i < l.length) : bt (B l) (i : Int) = ((l[i]).toNat : Int) := by
  rw [B_bt, Int.toNat_natCast, List.getD_eq_getElem?_getD, List.getElem?_eq_getElem h, Option.getD_some]
theorem w64s {i n : Nat} (h : i < n) (hn : n ≤ 140737488355328) : wrap64 ((i : Int) + 1) = ((i + 1 : Nat) : Int) := by rw [w64 (by omega) (by omega)]; omega
theorem lowerR_l (l : List UInt8) (hl : l.length ≤ 1048576) : ∀ (n k i : Nat), l.length - i = n → n < k → i ≤ l.length → bastionref01_Lower.l0 k (B l) (ns (low (l.take i))) (i : Int) = some (B (low l))
  | 0, k, i, hn, hk, hi => by
    obtain ⟨k, rfl⟩ : ∃ m, k = m + 1 := ⟨k - 1, by omega⟩
    simp only [bastionref01_Lower.l0]
    rw [if_neg (by rw [B_size]; omega), strOf_ns, List.take_of_length_le (by omega)]
  | n + 1, k, i, hn, hk, hi => by
    obtain ⟨k, rfl⟩ : ∃ m, k = m + 1 := ⟨k - 1, by omega⟩
    have hlt : i < l.length := by omega
    have hlen : (ns (low (l.take i))).length < 140737488355328 := by rw [ns_length, low_length, List.length_take]; omega
    have ih := lowerR_l l hl n k (i + 1) (by omega) (by omega) (by omega)
    rw [List.take_add_one, List.getElem?_eq_getElem hlt, Option.toList_some] at ih
    have e : ns (low (l.take i ++ [l[i]])) = ns (low (l.take i)) ++ [((lowC l[i]).toNat : Int)] := by
      unfold low
      rw [List.map_append, ns_append]; rfl
    rw [e, lowC_num] at ih
    simp only [bastionref01_Lower.l0]
    rw [if_pos (by rw [B_size]; omega), if_pos (by omega), bt_at' l hlt, w64s hlt (by omega)]
    simp only [if_pos hlen]
    split
    · rename_i h1
      rw [if_pos h1] at ih
      split
      · rename_i h2
        rw [if_pos h2] at ih
        exact ih
      · rename_i h2
        rw [if_neg h2] at ih
        exact ih
    · rename_i h1
      rw [if_neg h1] at ih
      exact ih
theorem lowerR (l : List UInt8) (hl : l.length ≤ 1048576) (k : Nat) (hk : l.length < k) : bastionref01_Lower.f k (B l) = some (B (low l)) := lowerR_l l hl l.length k 0 (by omega) hk (by omega)
/-- a loop that goes on as long as bytes are of a kind -/
theorem span_loop {α : Type} {q : UInt8 → Bool} (l : List UInt8) (F : Nat → Int → Option α) (g : Nat → Option α)
    (h1 : ∀ (k i : Nat) (h : i < l.length), F (k + 1) (i : Int) = if q l[i] then F k ((i + 1 : Nat) : Int) else g i) (h2 : ∀ k : Nat, F (k + 1) (l.length : Int) = g l.length) :
    ∀ (n k i : Nat), l.length - i = n → n < k → i ≤ l.length → F k (i : Int) = g (i + ((l.drop i).takeWhile q).length)
  | 0, k, i, hn, hk, hi => by
    obtain ⟨k, rfl⟩ : ∃ m, k = m + 1 := ⟨k - 1, by omega⟩
    obtain rfl : i = l.length := by omega
    rw [h2, List.drop_eq_nil_of_le (Nat.le_refl _)]; rfl
  | n + 1, k, i, hn, hk, hi => by
    obtain ⟨k, rfl⟩ : ∃ m, k = m + 1 := ⟨k - 1, by omega⟩
    have hlt : i < l.length := by omega
    rw [h1 k i hlt, List.drop_eq_getElem_cons hlt, List.takeWhile_cons]
    cases hq : q l[i] with
    | true =>
      simp only [if_true, List.length_cons]
      rw [span_loop l F g h1 h2 n k (i + 1) (by omega) (by omega) (by omega)]
      congr 1
      omega
    | false => simp
theorem c_eq (c : UInt8) (n : Nat) (hn : n < 256) : ((c.toNat : Int) = (n : Int)) = (c = n.toUInt8) := by
  apply propext
  constructor
  · intro h
    have : c.toNat = n := by omega
    rw [← this]; simp
  · intro h
    subst h
    simp
    omega
theorem schemeR (l : List UInt8) (hl : l.length ≤ 1048576) (k : Nat) (hk : l.length + 1 < k) : bastionref14_scheme.f k (B l) = some ((schN l : Nat) : Int) := by
  obtain ⟨k, rfl⟩ : ∃ m, k = m + 1 := ⟨k - 1, by omega⟩
  have key := span_loop (q := inSpan [43, 45, 46]) l (fun k i => bastionref14_scheme.l0 k (B l) i) (fun i => some (i : Int)) (fun k i h => by
    simp only [bastionref14_scheme.l0]
    rw [if_pos (by rw [B_size]; omega), if_pos (by omega), bt_at' l h, letterR, digitR, w64s h (by omega)]
    simp only [Option.bind_some]
    have e43 := c_eq l[i] 43 (by omega)
    have e45 := c_eq l[i] 45 (by omega)
    have e46 := c_eq l[i] 46 (by omega)
    simp only [Int.cast_ofNat_Int] at e43 e45 e46
    simp only [e43, e45, e46]
    unfold inSpan
    cases isAl l[i] <;> cases dig l[i] <;> simp
    by_cases h1 : l[i] = 43
    · simp [h1]
    · by_cases h2 : l[i] = 45
      · simp [h1, h2]
      · by_cases h3 : l[i] = 46
        · simp [h1, h2, h3]
        · simp [h1, h2, h3]) (fun k => by
    simp only [bastionref14_scheme.l0]
    rw [if_neg (by rw [B_size]; omega)])
  have key0 := key l.length k 0 (by omega) (by omega) (by omega)
  simp only [List.drop_zero, Nat.zero_add] at key0
  unfold bastionref14_scheme.f
  cases l with
  | nil =>
    rw [if_pos (B_toList _)]
    simp only [bastionref14_scheme.j0, if_true]
    rfl
  | cons c t =>
    rw [if_neg (by rw [B_toList]; simp), if_pos (by rw [B_size]; simp), show bt (B (c :: t)) 0 = (c.toNat : Int) from by have := bt_at' (c :: t) (i := 0) (by simp); simpa using this, letterR]
    simp only [Option.bind_some, bastionref14_scheme.j0]
    show _ = some (((if isAl c then spanN [43, 45, 46] (c :: t) else 0 : Nat)) : Int)
    cases isAl c with
    | true => simp only [Bool.not_true, Bool.false_eq_true, if_false, if_true]; exact key0
    | false => rfl
theorem codedR (l : List UInt8) (hl : l.length ≤ 1048576) (k : Nat) (hk : l.length < k) : bastionref14_coded.f k (B l) = some (codedN l) := by
  have fin : ∀ i : Nat, i ≤ l.length → (if (i : Int) > 0 then (if (i : Int) ≤ ((B l).size : Int) then (if ((B l).extract ((i : Int)).toNat (B l).size).toList = ([] : List UInt8) then (some true) else (if ((B l).extract ((i : Int)).toNat (B l).size).toList = ([61] : List UInt8) then (some true) else (some (((B l).extract ((i : Int)).toNat (B l).size).toList == ([61, 61] : List UInt8))))) else (none)) else (some false)) = some (decide (0 < i) && (l.drop i == [] || l.drop i == [61] || l.drop i == [61, 61])) := fun i hi => by
    rw [Int.toNat_natCast, B_extract_end, B_toList, B_size]
    by_cases h0 : i = 0
    · subst h0; simp
    · rw [if_pos (by omega), if_pos (by omega), decide_eq_true (by omega : 0 < i)]
      by_cases h1 : l.drop i = []
      · simp [h1]
      · rw [if_neg h1]
        by_cases h2 : l.drop i = [61]
        · simp [h2]
        · rw [if_neg h2]
          simp [h1, h2]
  have key := span_loop (q := inSpan [43, 47, 45, 95]) l (fun k i => bastionref14_coded.l0 k (B l) i) (fun i => some (decide (0 < i) && (l.drop i == [] || l.drop i == [61] || l.drop i == [61, 61]))) (fun k i h => by
    simp only [bastionref14_coded.l0]
    rw [fin i (by omega), if_pos (by rw [B_size]; omega), if_pos (by omega), bt_at' l h, letterR, digitR, w64s h (by omega)]
    simp only [Option.bind_some]
    have e43 := c_eq l[i] 43 (by omega)
    have e47 := c_eq l[i] 47 (by omega)
    have e45 := c_eq l[i] 45 (by omega)
    have e95 := c_eq l[i] 95 (by omega)
    simp only [Int.cast_ofNat_Int] at e43 e45 e47 e95
    simp only [e43, e45, e47, e95]
    unfold inSpan
    generalize (some (decide (0 < i) && (l.drop i == [] || l.drop i == [61] || l.drop i == [61, 61])) : Option Bool) = R
    generalize bastionref14_coded.l0 k (B l) ((i + 1 : Nat) : Int) = R2
    cases isAl l[i] <;> cases dig l[i] <;> simp
    by_cases h1 : l[i] = 43
    · simp [h1]
    · by_cases h2 : l[i] = 47
      · simp [h1, h2]
      · by_cases h3 : l[i] = 45
        · simp [h1, h2, h3]
        · by_cases h4 : l[i] = 95
          · simp [h1, h2, h3, h4]
          · simp [h1, h2, h3, h4]) (fun k => by
    have f := fin l.length (Nat.le_refl _)
    simp only [bastionref14_coded.l0]
    rw [if_neg (by rw [B_size]; omega)]
    rw [← f]
    split
    · rw [if_pos (by omega)]
    · rfl)
  have key0 := key l.length k 0 (by omega) (by omega) (by omega)
  simp only [List.drop_zero, Nat.zero_add] at key0
  exact key0
theorem c39 (c : UInt8) : ((c.toNat : Int) = 39) = (c = 39) := c_eq c 39 (by omega)
theorem markedR (l : List UInt8) (hl : l.length ≤ 1048576) : bastionref14_marked.f (B l) = some (if preB [39] l && sufB [39] (l.drop 1) then (B ((l.drop 1).take ((l.drop 1).length - 1)), true) else (B [], false)) := by
  unfold bastionref14_marked.f
  rw [B_size]
  cases l with
  | nil => rfl
  | cons c t =>
    cases t with
    | nil =>
      rw [if_pos (by simp)]
      have : sufB [39] (([c] : List UInt8).drop 1) = false := by simp [sufB]
      rw [this, Bool.and_false]
      rfl
    | cons d u =>
      have hlen : (c :: d :: u).length = u.length + 2 := by simp
      rw [if_neg (by simp; omega), if_pos (by simp; omega), show bt (B (c :: d :: u)) 0 = (c.toNat : Int) from by have := bt_at' (c :: d :: u) (i := 0) (by simp); simpa using this]
      have hw : wrap64 (((c :: d :: u).length : Int) - 1) = ((u.length + 1 : Nat) : Int) := by rw [hlen, w64 (by omega) (by omega)]; omega
      rw [hw]
      have e39 := c39 c
      have hp : preB [39] (c :: d :: u) = (c == 39) := by simp [preB]
      have hd : (c :: d :: u).drop 1 = d :: u := rfl
      have hs : sufB [39] (d :: u) = ((d :: u)[u.length]'(by simp) == 39) := by
        unfold sufB
        have h1 : (d :: u).drop ((d :: u).length - ([39] : List UInt8).length) = [(d :: u)[u.length]'(by simp)] := by
          have : (d :: u).length - ([39] : List UInt8).length = u.length := by simp
          rw [this, List.drop_eq_getElem_cons (by simp), List.drop_eq_nil_of_le (by simp)]
        rw [h1]
        simp
      rw [hp, hd, hs]
      simp only [e39]
      by_cases h1 : c = 39
      · subst h1
        rw [if_pos rfl, if_pos (by omega), if_pos (by omega), bt_at' _ (by simp : u.length + 1 < (39 :: d :: u).length)]
        have hg : (39 :: d :: u)[u.length + 1]'(by simp) = (d :: u)[u.length]'(by simp) := rfl
        rw [hg]
        have e39' := c39 ((d :: u)[u.length]'(by simp))
        simp only [e39']
        by_cases h2 : (d :: u)[u.length]'(by simp) = 39
        · rw [if_pos h2, if_pos (by omega), if_pos (by omega), Int.toNat_natCast, B_extract]
          simp [h2]
        · rw [if_neg h2]
          simp [h2]
          rfl
      · rw [if_neg h1]
        simp [h1]
        rfl
theorem keyR_l (l : List UInt8) (ls : List (List UInt8)) (hn : ls.length ≤ 1048576) : ∀ (n k i : Nat), ls.length - i = n → n < k → i ≤ ls.length → (∀ j, j < i → ls[j]? ≠ some l) → bastionref14_Keyword.l0 k (B l) (ls.map B) (ls.length : Int) (i : Int) = some (ls.contains l)
  | 0, k, i, hd, hk, hi, hno => by
    obtain ⟨k, rfl⟩ : ∃ m, k = m + 1 := ⟨k - 1, by omega⟩
    simp only [bastionref14_Keyword.l0]
    rw [if_neg (by omega)]
    have : ls.contains l = false := by
      rw [Bool.eq_false_iff]
      intro h
      obtain ⟨j, hj, he⟩ := List.mem_iff_getElem.1 (by simpa using h)
      exact hno j (by omega) (by rw [List.getElem?_eq_getElem hj, he])
    rw [this]
  | n + 1, k, i, hd, hk, hi, hno => by
    obtain ⟨k, rfl⟩ : ∃ m, k = m + 1 := ⟨k - 1, by omega⟩
    have hlt : i < ls.length := by omega
    have hr : rdOf ByteArray.empty (ls.map B) (i : Int) = B ls[i] := by
      unfold rdOf
      simp [List.getD_eq_getElem?_getD, hlt]
    simp only [bastionref14_Keyword.l0]
    rw [if_pos (by omega), if_pos (by omega), if_pos (by rw [List.length_map]; omega), hr, B_toList, B_toList, w64s hlt (by omega)]
    split
    · rename_i h
      have : ls.contains l = true := by rw [← h]; simp
      rw [this]
    · rename_i h
      refine keyR_l l ls hn n k (i + 1) (by omega) (by omega) (by omega) (fun j hj => ?_)
      by_cases hji : j = i
      · subst hji
        rw [List.getElem?_eq_getElem hlt]
        intro e
        exact h (Option.some.inj e)
      · exact hno j (by omega)
theorem keyR (l : List UInt8) (k : Nat) (hk : 100 < k) : bastionref14_Keyword.f k (B l) = some (keyL.contains l) := by
  unfold bastionref14_Keyword.f
  have hk8 : keyL.length = 8 := by decide +kernel
  have e : ([(⟨#[115, 101, 108, 102]⟩ : ByteArray), (⟨#[110, 111, 110, 101]⟩ : ByteArray), (⟨#[117, 110, 115, 97, 102, 101, 45, 105, 110, 108, 105, 110, 101]⟩ : ByteArray), (⟨#[117, 110, 115, 97, 102, 101, 45, 101, 118, 97, 108]⟩ : ByteArray), (⟨#[115, 116, 114, 105, 99, 116, 45, 100, 121, 110, 97, 109, 105, 99]⟩ : ByteArray), (⟨#[117, 110, 115, 97, 102, 101, 45, 104, 97, 115, 104, 101, 115]⟩ : ByteArray), (⟨#[114, 101, 112, 111, 114, 116, 45, 115, 97, 109, 112, 108, 101]⟩ : ByteArray), (⟨#[119, 97, 115, 109, 45, 117, 110, 115, 97, 102, 101, 45, 101, 118, 97, 108]⟩ : ByteArray)] : List ByteArray) = keyL.map B := by
    rw [← keyL_eq]; rfl
  rw [e]
  simp only [Option.bind_some, List.length_map]
  exact keyR_l l keyL (by omega) 8 k 0 (by omega) (by omega) (by omega) (fun j hj => by omega)
end Go.Proofs.YtnndgmbflkdhkaaGreatDoor.Q
