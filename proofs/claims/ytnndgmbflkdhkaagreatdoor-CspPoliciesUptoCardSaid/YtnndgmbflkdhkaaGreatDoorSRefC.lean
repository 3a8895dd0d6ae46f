/- The document's word, Check, Text, plain: they are csp's. -/
import Derived.Test.YtnndgmbflkdhkaaGreatDoorSRefW
set_option linter.unusedSimpArgs false
set_option linter.unusedVariables false
namespace Go.Proofs.YtnndgmbflkdhkaaGreatDoor.Q
open Go.RowKit Go.Proofs.YtnndgmbflkdhkaaGreatDoorW.PrintWords Go.Proofs.YtnndgmbflkdhkaaGreatDoorW.PrintLast Go.Proofs.YtnndgmbflkdhkaaGreatDoorW.PrintMore Go.Proofs.YtnndgmbflkdhkaaGreatDoor.P1
theorem any_consC (c : UInt8) (t p : List UInt8) : Lib.containsAny (c :: t) p = (p.contains c || Lib.containsAny t p) := by
  have hg := Lib.indexAny_ge p t
  unfold Lib.containsAny
  conv => lhs; unfold Lib.indexAny
  cases h : p.contains c with
  | true => simp
  | false =>
    simp only [Bool.false_eq_true, if_false, Bool.false_or]
    split
    · rename_i h1
      have h1' : Lib.indexAny t p = -1 := by simpa using h1
      rw [h1']
    · rename_i h1
      have h1' : Lib.indexAny t p ≠ -1 := by simpa using h1
      rw [decide_eq_true (by omega), decide_eq_true (by omega)]
theorem wd59 (c : UInt8) : ([9, 10, 12, 13, 32, 59] : List UInt8).contains c = (bl c || c == 59) := all_c (p := fun c => ([9, 10, 12, 13, 32, 59] : List UInt8).contains c = (bl c || c == 59)) (by decide +kernel) c
theorem wordR_l (l : List UInt8) (hl : l.length ≤ 1048576) : ∀ (n k i : Nat), l.length - i = n → n < k → i ≤ l.length →
    bastionref14_word.l0 k (B l) (i : Int) = some (!l.isEmpty && !Lib.containsAny (l.drop i) [9, 10, 12, 13, 32, 59])
  | 0, k, i, hn, hk, hi => by
    obtain ⟨k, rfl⟩ : ∃ m, k = m + 1 := ⟨k - 1, by omega⟩
    have q : ¬ (i : Int) < ((B l).size : Int) := by rw [B_size]; omega
    simp only [bastionref14_word.l0]
    rw [if_neg q, B_toList, List.drop_eq_nil_of_le (by omega)]
    cases l with
    | nil => rfl
    | cons c t => rfl
  | n + 1, k, i, hn, hk, hi => by
    obtain ⟨k, rfl⟩ : ∃ m, k = m + 1 := ⟨k - 1, by omega⟩
    have hlt : i < l.length := by omega
    have q : (i : Int) < ((B l).size : Int) := by rw [B_size]; omega
    have q0 : (0 : Int) ≤ (i : Int) := by omega
    have ih := wordR_l l hl n k (i + 1) (by omega) (by omega) (by omega)
    have e59 : ((l[i].toNat : Int) = 59) = (l[i] = 59) := c_eq l[i] 59 (by omega)
    simp only [bastionref14_word.l0]
    rw [if_pos q, if_pos q0, bt_at' l hlt, blankR, w64s hlt (by omega), ih, List.drop_eq_getElem_cons hlt, any_consC, wd59]
    simp only [Option.bind_some, e59]
    generalize l[i] = c
    cases bl c with
    | true => simp
    | false =>
      by_cases h : c = 59
      · simp [h]
      · have h' : (c == 59) = false := by simpa using h
        simp [h, h']
theorem wordR (s : ByteArray) (hs : s.size ≤ 1048576) (k : Nat) (hk : s.size < k) : bastionref14_word.f k s = some (wordV s) := by
  obtain ⟨l, rfl⟩ := B_ex s
  rw [B_size] at hs hk
  have h := wordR_l l hs l.length k 0 (by omega) hk (by omega)
  exact h
/-- the rest of the directives are right -/
def restOk (l : List S35) : Nat → Nat → Bool
  | 0, _ => true
  | n + 1, i => dirOk (l.take i) (rd_T35 l (i : Int)) && !((rd_T35 l (i : Int)).f1.any fun v => !wordV v) && restOk l n (i + 1)
theorem okAt_rest (l : List S35) : ∀ (n i : Nat), okAt l (i + n) = (okAt l i && restOk l n i)
  | 0, i => by simp [restOk]
  | n + 1, i => by
    have h := okAt_rest l n (i + 1)
    rw [show i + (n + 1) = i + 1 + n from by omega, h]
    conv => lhs; unfold okAt
    conv => rhs; unfold restOk
    simp only [Bool.and_assoc]
theorem checkR_l2 (vs : List ByteArray) (hv : vs.length ≤ 64) (hz : ∀ v ∈ vs, v.size ≤ 1048576) (x14 : List S35) (x15 x16 : Int) (x0 : List S35) (r : Bool) (K : Nat) (R : Int) (hK : 1048576 ≤ K)
    (next : ∀ k, K < k → bastionref14_Check.l0 k x14 x15 (wrap64 (x16 + 1)) x0 r = some R) : ∀ (n k j : Nat), vs.length - j = n → n + K + 1 < k → j ≤ vs.length →
    bastionref14_Check.l2 k x14 x15 x16 vs (vs.length : Int) (j : Int) x0 r = some (if (vs.drop j).any (fun v => !wordV v) then 20 else R)
  | 0, k, j, hn, hk, hj => by
    obtain ⟨k, rfl⟩ : ∃ m, k = m + 1 := ⟨k - 1, by omega⟩
    have q : ¬ (j : Int) < (vs.length : Int) := by omega
    simp only [bastionref14_Check.l2]
    rw [if_neg q, next k (by omega), List.drop_eq_nil_of_le (by omega)]
    rfl
  | n + 1, k, j, hn, hk, hj => by
    obtain ⟨k, rfl⟩ : ∃ m, k = m + 1 := ⟨k - 1, by omega⟩
    have hlt : j < vs.length := by omega
    have q : (j : Int) < (vs.length : Int) := by omega
    have q0 : (0 : Int) ≤ (j : Int) := by omega
    have ih := checkR_l2 vs hv hz x14 x15 x16 x0 r K R hK next n k (j + 1) (by omega) (by omega) (by omega)
    have hs := hz vs[j] (List.getElem_mem hlt)
    have hr : rdOf ByteArray.empty vs (j : Int) = vs[j] := by unfold rdOf; simp [List.getD_eq_getElem?_getD, hlt]
    simp only [bastionref14_Check.l2]
    rw [if_pos q, if_pos q0, if_pos q, hr, wordR vs[j] hs k (by omega), w64s hlt (by omega), ih, List.drop_eq_getElem_cons hlt, List.any_cons]
    simp only [Option.bind_some]
    cases wordV vs[j] with
    | true => simp
    | false => simp
theorem checkR_l1 (es : List S35) (hes : es.length ≤ 64) (x14 : List S35) (x15 x16 : Int) (x0 : List S35) (r : Bool) (nm : ByteArray) (vs : List ByteArray) (K : Nat) (R : Int)
    (next : ∀ k, K < k → bastionref14_Check.l2 k x14 x15 x16 vs (vs.length : Int) 0 x0 r = some R) : ∀ (n k j : Nat), es.length - j = n → n + K + 1 < k → j ≤ es.length →
    bastionref14_Check.l1 k x14 x15 x16 es (es.length : Int) (j : Int) x0 r nm vs = some (if (es.drop j).any (fun e => e.f0.toList == nm.toList) then 20 else R)
  | 0, k, j, hn, hk, hj => by
    obtain ⟨k, rfl⟩ : ∃ m, k = m + 1 := ⟨k - 1, by omega⟩
    have q : ¬ (j : Int) < (es.length : Int) := by omega
    simp only [bastionref14_Check.l1]
    rw [if_neg q, next k (by omega), List.drop_eq_nil_of_le (by omega)]
    rfl
  | n + 1, k, j, hn, hk, hj => by
    obtain ⟨k, rfl⟩ : ∃ m, k = m + 1 := ⟨k - 1, by omega⟩
    have hlt : j < es.length := by omega
    have q : (j : Int) < (es.length : Int) := by omega
    have q0 : (0 : Int) ≤ (j : Int) := by omega
    have ih := checkR_l1 es hes x14 x15 x16 x0 r nm vs K R next n k (j + 1) (by omega) (by omega) (by omega)
    simp only [bastionref14_Check.l1]
    rw [if_pos q, if_pos q0, if_pos q, rd35_get hlt, w64s hlt (by omega), ih, List.drop_eq_getElem_cons hlt, List.any_cons]
    by_cases h : es[j].f0.toList = nm.toList
    · have hb : (es[j].f0.toList == nm.toList) = true := by simpa using h
      rw [if_pos h, hb]; simp
    · have hb : (es[j].f0.toList == nm.toList) = false := by simpa using h
      rw [if_neg h, hb]; simp
theorem checkR_l0 (l : List S35) (hl : l.length ≤ 64) (hs : ∀ d ∈ l, dirSmall d = true) (r : Bool) : ∀ (n k i : Nat), l.length - i = n → 200 * n + 1048580 < k → i ≤ l.length →
    bastionref14_Check.l0 k l (l.length : Int) (i : Int) l r = some (if restOk l n i then 0 else 20)
  | 0, k, i, hn, hk, hi => by
    obtain ⟨k, rfl⟩ : ∃ m, k = m + 1 := ⟨k - 1, by omega⟩
    have q : ¬ (i : Int) < (l.length : Int) := by omega
    simp only [bastionref14_Check.l0]
    rw [if_neg q]
    rfl
  | n + 1, k, i, hn, hk, hi => by
    obtain ⟨k, rfl⟩ : ∃ m, k = m + 2 := ⟨k - 2, by omega⟩
    have hlt : i < l.length := by omega
    have q : (i : Int) < (l.length : Int) := by omega
    have q0 : (0 : Int) ≤ (i : Int) := by omega
    have q1 : (i : Int) ≤ (l.length : Int) := by omega
    have ih := fun k' h => checkR_l0 l hl hs r n k' (i + 1) (by omega) h (by omega)
    have hd := hs l[i] (List.getElem_mem hlt)
    simp only [dirSmall, Bool.and_eq_true, decide_eq_true_eq, List.all_eq_true] at hd
    obtain ⟨⟨d1, d2⟩, d3⟩ := hd
    have hlow : bastionref01_Lower.f (k + 1) l[i].f0 = some (B (low l[i].f0.data.toList)) := by
      obtain ⟨s, hs'⟩ := B_ex l[i].f0
      rw [hs'] at d1 ⊢
      rw [B_size] at d1
      exact lowerR s d1 _ (by omega)
    have hw := wordR l[i].f0 d1 (k + 1) (by omega)
    simp only [bastionref14_Check.l0]
    rw [if_pos q, if_pos q0, if_pos q, rd35_get hlt, hw, hlow]
    simp only [Option.bind_some, bastionref14_Check.j1, if_pos q0, if_pos q1, Int.toNat_natCast]
    unfold restOk
    rw [rd35_get hlt]
    have hdo : dirOk (l.take i) l[i] = (wordV l[i].f0 && lowEq l[i].f0 && decide (l[i].f1.length ≤ 64) && !((l.take i).any fun e => e.f0.toList == l[i].f0.toList)) := rfl
    rw [hdo]
    cases hwv : wordV l[i].f0 with
    | false => simp
    | true =>
      simp only [if_true, Bool.true_and]
      by_cases hle : (B (low l[i].f0.data.toList)).toList = l[i].f0.toList
      · have hb : lowEq l[i].f0 = true := by unfold lowEq; simpa using hle
        rw [if_pos hle, hb, Bool.true_and]
        by_cases h64 : l[i].f1.length ≤ 64
        · have hn64 : decide (((l[i].f1.length : Nat) : Int) > 64) = false := decide_eq_false (by omega)
          rw [hn64, decide_eq_true h64]
          simp only [Bool.false_eq_true, if_false, Bool.true_and]
          obtain ⟨K, hK⟩ : ∃ K, 200 * n + 1048580 = K := ⟨_, rfl⟩
          have n2 := checkR_l2 l[i].f1 h64 (fun v hv => d3 v hv) l (l.length : Int) (i : Int) l r K (if restOk l n (i + 1) then 0 else 20) (by omega) (fun k' h => by
            rw [w64s hlt (by omega)]
            exact ih k' (by omega))
          have n1 := checkR_l1 (l.take i) (by rw [List.length_take]; omega) l (l.length : Int) (i : Int) l r l[i].f0 l[i].f1 (K + 70) _ (fun k' h => n2 l[i].f1.length k' 0 (by omega) (by omega) (by omega)) (l.take i).length k 0 (by omega) (by rw [List.length_take]; omega) (by omega)
          simp only [List.drop_zero] at n1
          refine Eq.trans n1 ?_
          cases ((l.take i).any fun e => e.f0.toList == l[i].f0.toList) with
          | true => simp
          | false =>
            simp only [Bool.false_eq_true, if_false, Bool.not_false, Bool.true_and]
            cases (l[i].f1.any fun v => !wordV v) with
            | true => simp
            | false => simp
        · have hn64 : decide (((l[i].f1.length : Nat) : Int) > 64) = true := decide_eq_true (by omega)
          rw [hn64, decide_eq_false h64]
          simp
      · have hb : lowEq l[i].f0 = false := by unfold lowEq; simpa using hle
        rw [if_neg hle, hb]
        simp
theorem checkR (l : List S35) (r : Bool) (hs : ∀ d ∈ l, dirSmall d = true) (k : Nat) (hk : 1100000 < k) : bastionref14_Check.f k l r = some (if okAt l l.length then 0 else 20) := by
  unfold bastionref14_Check.f
  have h0 := okAt_rest l l.length 0
  rw [Nat.zero_add] at h0
  rw [h0]
  by_cases h64 : l.length ≤ 64
  · have h := checkR_l0 l h64 hs r l.length k 0 (by omega) (by omega) (by omega)
    rw [if_neg (by omega), show okAt l 0 = true from decide_eq_true h64, Bool.true_and]
    exact h
  · rw [if_pos (by omega), show okAt l 0 = false from decide_eq_false h64]
    simp
end Go.Proofs.YtnndgmbflkdhkaaGreatDoor.Q
