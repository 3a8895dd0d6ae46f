/- bastionref07.TextV6: the document's text of an address of eight pieces is the program's. -/
import Derived.Test.YtkabhnbjjnjdhaaDoorSAdM
import Derived.Test.YtkabhnbjjnjdhaaDoorSAGap
import Derived.Test.YtkabhnbjjnjdhaaDoorSAEnds
import Derived.Test.YtkabhnbjjnjdhaaDoorSQbastionref07textA
set_option linter.unusedSimpArgs false
set_option linter.unusedVariables false
namespace Go.Proofs.YtkabhnbjjnjdhaaDoor.Q
open Go.RowKit Go.Proofs.YtkabhnbjjnjdhaaDoorW.PrintWords Go.Proofs.YtkabhnbjjnjdhaaDoorW.PrintLast Go.Proofs.YtkabhnbjjnjdhaaDoorW.PrintMore Go.Proofs.YtkabhnbjjnjdhaaDoor.Ad
/-- a digit, as the document writes it -/
theorem hexD_tab : ∀ m : Fin 16, ((⟨#[48, 49, 50, 51, 52, 53, 54, 55, 56, 57, 97, 98, 99, 100, 101, 102]⟩ : ByteArray).extract m.val (m.val + 1)).data.toList = [UInt8.ofNat (hexD m.val)] := by decide +kernel
theorem text_step (b : Nat) (hb : 2 ≤ b) (hb16 : b ≤ 16) (k n : Nat) (hn : n < 4294967296) (l : List UInt8) (hl : l.length ≤ 1000) (h : l = [] ∨ 0 < n) : bastionref07_text.l0 (k + 1) (n : Int) (b : Int) (B l) = bastionref07_text.l0 k ((n / b : Nat) : Int) (b : Int) (B (UInt8.ofNat (hexD (n % b)) :: l)) := by
  have hm : n % b < 16 := Nat.lt_of_lt_of_le (Nat.mod_lt _ (by omega)) hb16
  have e1 : Int.tmod (n : Int) (b : Int) = ((n % b : Nat) : Int) := by rw [Int.tmod_eq_emod_of_nonneg (by omega)]; rfl
  have e2 : Int.tdiv (n : Int) (b : Int) = ((n / b : Nat) : Int) := by rw [Int.tdiv_eq_ediv_of_nonneg (by omega)]; rfl
  have e3 : IntKind.u64.wrap (((n % b : Nat) : Int) + 1) = ((n % b + 1 : Nat) : Int) := by
    obtain ⟨r, hr⟩ : ∃ r, r = n % b := ⟨_, rfl⟩
    rw [← hr] at hm ⊢
    rw [IntKind.wrap_u64]
    omega
  have hd : n / b < 4294967296 := Nat.lt_of_le_of_lt (Nat.div_le_self _ _) hn
  have e4 : IntKind.u64.wrap ((n / b : Nat) : Int) = ((n / b : Nat) : Int) := by
    obtain ⟨r, hr⟩ : ∃ r, r = n / b := ⟨_, rfl⟩
    rw [← hr] at hd ⊢
    rw [IntKind.wrap_u64]
    omega
  have ex : (⟨#[48, 49, 50, 51, 52, 53, 54, 55, 56, 57, 97, 98, 99, 100, 101, 102]⟩ : ByteArray).extract (n % b) (n % b + 1) = B [UInt8.ofNat (hexD (n % b))] := by
    have := hexD_tab ⟨n % b, hm⟩
    rw [← B_of ((⟨#[48, 49, 50, 51, 52, 53, 54, 55, 56, 57, 97, 98, 99, 100, 101, 102]⟩ : ByteArray).extract (n % b) (n % b + 1)), this]
  have hsz : (B [UInt8.ofNat (hexD (n % b))]).size + (B l).size ≤ 9223372036854775807 := by rw [B_size, B_size]; simp; omega
  have hcat : B [UInt8.ofNat (hexD (n % b))] ++ B l = B (UInt8.ofNat (hexD (n % b)) :: l) := B_append _ _
  conv => lhs; unfold bastionref07_text.l0
  simp only [e1, e2, e3, e4, Int.toNat_natCast, ex, hcat, B_toList]
  rcases h with rfl | h
  · rw [if_pos rfl, if_neg (by omega), if_pos (by omega), if_pos (by omega), if_pos (by omega), if_pos hsz]
  · by_cases hl0 : l = []
    · rw [if_pos hl0, if_neg (by omega), if_pos (by omega), if_pos (by omega), if_pos (by omega), if_pos hsz]
    · rw [if_neg hl0, if_pos (by omega), if_neg (by omega), if_pos (by omega), if_pos (by omega), if_pos (by omega), if_pos hsz]
theorem text_end (b : Nat) (k : Nat) (l : List UInt8) (hl : l ≠ []) : bastionref07_text.l0 (k + 1) 0 (b : Int) (B l) = some (B l) := by
  unfold bastionref07_text.l0
  rw [B_toList, if_neg hl, if_neg (by decide)]
theorem text16 (n : Nat) (hn : n < 65536) (k : Nat) : bastionref07_text.f (k + 5) (n : Int) 16 = some (B (hexU n)) := by
  unfold bastionref07_text.f
  show bastionref07_text.l0 (k + 4 + 1) (n : Int) ((16 : Nat) : Int) (B []) = _
  rw [text_step 16 (by omega) (by omega) (k + 4) n (by omega) [] (by simp) (.inl rfl)]
  unfold hexU hexJ
  by_cases h1 : n < 16
  · rw [if_pos h1, show n / 16 = 0 from by omega, show k + 4 = k + 3 + 1 from rfl]
    refine (text_end 16 (k + 3) _ (by simp)).trans ?_
    show _ = some (B [UInt8.ofNat (hexD (n / 1 % 16))])
    rw [Nat.div_one]
  · rw [if_neg h1, show k + 4 = k + 3 + 1 from rfl, text_step 16 (by omega) (by omega) (k + 3) (n / 16) (by omega) _ (by simp) (.inr (by omega))]
    by_cases h2 : n < 256
    · rw [if_pos h2, show n / 16 / 16 = 0 from by omega, show k + 3 = k + 2 + 1 from rfl]
      refine (text_end 16 (k + 2) _ (by simp)).trans ?_
      show _ = some (B [UInt8.ofNat (hexD (n / 16 % 16)), UInt8.ofNat (hexD (n / 1 % 16))])
      rw [Nat.div_one]
    · rw [if_neg h2, show k + 3 = k + 2 + 1 from rfl, text_step 16 (by omega) (by omega) (k + 2) (n / 16 / 16) (by omega) _ (by simp) (.inr (by omega))]
      by_cases h3 : n < 4096
      · rw [if_pos h3, show n / 16 / 16 / 16 = 0 from by omega, show k + 2 = k + 1 + 1 from rfl]
        refine (text_end 16 (k + 1) _ (by simp)).trans ?_
        show _ = some (B [UInt8.ofNat (hexD (n / 256 % 16)), UInt8.ofNat (hexD (n / 16 % 16)), UInt8.ofNat (hexD (n / 1 % 16))])
        rw [Nat.div_one, Nat.div_div_eq_div_mul n 16 16]
      · rw [if_neg h3, show k + 2 = k + 1 + 1 from rfl, text_step 16 (by omega) (by omega) (k + 1) (n / 16 / 16 / 16) (by omega) _ (by simp) (.inr (by omega))]
        rw [show n / 16 / 16 / 16 / 16 = 0 from by omega]
        refine (text_end 16 k _ (by simp)).trans ?_
        show _ = some (B [UInt8.ofNat (hexD (n / 4096 % 16)), UInt8.ofNat (hexD (n / 256 % 16)), UInt8.ofNat (hexD (n / 16 % 16)), UInt8.ofNat (hexD (n / 1 % 16))])
        rw [Nat.div_one, Nat.div_div_eq_div_mul n 16 16, Nat.div_div_eq_div_mul n (16 * 16) 16]
theorem hexD_dec {m : Nat} (h : m < 10) : hexD m = 48 + m := if_pos h
theorem text10 (n : Nat) (hn : n < 256) (k : Nat) : bastionref07_text.f (k + 5) (n : Int) 10 = some (B (dec3 n)) := by
  unfold bastionref07_text.f
  show bastionref07_text.l0 (k + 4 + 1) (n : Int) ((10 : Nat) : Int) (B []) = _
  rw [text_step 10 (by omega) (by omega) (k + 4) n (by omega) [] (by simp) (.inl rfl)]
  unfold dec3
  by_cases h1 : n < 10
  · rw [if_pos h1, show n / 10 = 0 from by omega, show k + 4 = k + 3 + 1 from rfl]
    refine (text_end 10 (k + 3) _ (by simp)).trans ?_
    rw [hexD_dec (by omega), show n % 10 = n from by omega]
  · rw [if_neg h1, show k + 4 = k + 3 + 1 from rfl, text_step 10 (by omega) (by omega) (k + 3) (n / 10) (by omega) _ (by simp) (.inr (by omega))]
    by_cases h2 : n < 100
    · rw [if_pos h2, show n / 10 / 10 = 0 from by omega, show k + 3 = k + 2 + 1 from rfl]
      refine (text_end 10 (k + 2) _ (by simp)).trans ?_
      rw [hexD_dec (by omega), hexD_dec (by omega), show n / 10 % 10 = n / 10 from by omega]
    · rw [if_neg h2, show k + 3 = k + 2 + 1 from rfl, text_step 10 (by omega) (by omega) (k + 2) (n / 10 / 10) (by omega) _ (by simp) (.inr (by omega))]
      rw [show n / 10 / 10 / 10 = 0 from by omega, show k + 2 = k + 1 + 1 from rfl]
      refine (text_end 10 (k + 1) _ (by simp)).trans ?_
      rw [hexD_dec (by omega), hexD_dec (by omega), hexD_dec (by omega), show n / 10 / 10 % 10 = n / 100 from by omega]
def sofar (l : List Nat) (f t i : Nat) : List UInt8 := if t = 0 ∨ i ≤ f then hexJoin (l.take i) else hexJoin (l.take f) ++ [58, 58] ++ hexJoin ((l.drop t).take (i - t))
theorem hexJoin_snoc {xs : List Nat} (x : Nat) : hexJoin (xs ++ [x]) = if xs = [] then hexU x else hexJoin xs ++ [58] ++ hexU x := by
  induction xs with
  | nil => rw [if_pos rfl]; show Lib.join [hexU x] [58] = _; rw [Lib.join_one]
  | cons y r ih =>
    rw [if_neg (by simp)]
    cases r with
    | nil =>
      show Lib.join [hexU y, hexU x] [58] = Lib.join [hexU y] [58] ++ [58] ++ hexU x
      rw [join_two, Lib.join_one, Lib.join_one]
    | cons z q =>
      rw [if_neg (by simp)] at ih
      have e1 : hexJoin (y :: z :: q ++ [x]) = hexU y ++ [58] ++ hexJoin (z :: q ++ [x]) := join_two (hexU y) (hexU z) ((q ++ [x]).map hexU) [58]
      have e2 : hexJoin (y :: z :: q) = hexU y ++ [58] ++ hexJoin (z :: q) := join_two (hexU y) (hexU z) (q.map hexU) [58]
      rw [e1, ih, e2]
      simp
theorem hexU_last (n : Nat) (h : hexU n ≠ []) : okC ((hexU n).getLast h) := hexU_ok (List.getLast_mem h)
theorem hexJoin_last {xs : List Nat} (h : hexJoin xs ≠ []) : okC ((hexJoin xs).getLast h) := by
  have hx : xs ≠ [] := fun e => h (by rw [e]; rfl)
  obtain ⟨ys, y, rfl⟩ : ∃ ys y, xs = ys ++ [y] := ⟨xs.dropLast, xs.getLast hx, (List.dropLast_concat_getLast hx).symm⟩
  have hy : hexU y ≠ [] := fun e => by have := (hexU_len y).1; rw [e] at this; exact absurd this (by simp)
  have e := hexJoin_snoc (xs := ys) y
  have : ∃ p, hexJoin (ys ++ [y]) = p ++ hexU y := by
    rw [e]; split
    · exact ⟨[], rfl⟩
    · exact ⟨_, rfl⟩
  obtain ⟨p, hp⟩ := this
  have hl : (hexJoin (ys ++ [y])).getLast h = (hexU y).getLast hy := by
    have h1 : (p ++ hexU y).getLast? = some ((hexJoin (ys ++ [y])).getLast h) := (congrArg List.getLast? hp).symm.trans (List.getLast?_eq_some_getLast h)
    have h2 := List.getLast?_eq_some_getLast hy
    rw [List.getLast?_append, h2] at h1
    simpa using h1.symm
  rw [hl]
  exact hexU_last y hy
/-- one more piece -/
theorem sofar_more {l : List Nat} {f t i x : Nat} (hx : l[i]? = some x) (hif : t = 0 ∨ (f + 2 ≤ t ∧ (i < f ∨ t ≤ i))) : sofar l f t (i + 1) = if sofar l f t i = [] then hexU x else if t ≠ 0 ∧ i = t then sofar l f t i ++ hexU x else sofar l f t i ++ [58] ++ hexU x := by
  obtain ⟨hi, hxx⟩ := List.getElem?_eq_some_iff.1 hx
  have htk : l.take (i + 1) = l.take i ++ [x] := by rw [List.take_succ_eq_append_getElem hi, hxx]
  by_cases h1 : t = 0 ∨ i + 1 ≤ f
  · have h2 : t = 0 ∨ i ≤ f := by omega
    unfold sofar
    rw [if_pos h1, if_pos h2, htk, hexJoin_snoc]
    have h3 : ¬ (t ≠ 0 ∧ i = t) := by omega
    rw [if_neg h3]
    by_cases he : l.take i = []
    · rw [if_pos he, if_pos (by rw [he]; rfl)]
    · rw [if_neg he, if_neg (hexJoin_ne he)]
  · have h2 : ¬ (t = 0 ∨ i ≤ f) := by omega
    have h3 : f + 2 ≤ t ∧ t ≤ i := by omega
    unfold sofar
    rw [if_neg h1, if_neg h2, if_neg (by simp)]
    have hdt : (l.drop t).take (i + 1 - t) = (l.drop t).take (i - t) ++ [x] := by
      rw [show i + 1 - t = (i - t) + 1 from by omega, List.take_succ_eq_append_getElem (by rw [List.length_drop]; omega)]
      congr 2
      rw [List.getElem_drop]
      simp only [show t + (i - t) = i from by omega]
      exact hxx
    rw [hdt, hexJoin_snoc]
    by_cases ht : i = t
    · rw [if_pos (show (l.drop t).take (i - t) = [] from by rw [ht, Nat.sub_self]; rfl), if_pos ⟨by omega, ht⟩]
      rw [ht, Nat.sub_self]
      simp [hexJoin, Lib.join_nil]
    · rw [if_neg (show ¬ (l.drop t).take (i - t) = [] from fun h => by
        have := congrArg List.length h
        rw [List.length_take, List.length_drop] at this
        simp at this
        omega), if_neg (fun h => ht h.2)]
      simp
theorem sofar_gap {l : List Nat} {f t : Nat} (h : f + 2 ≤ t) : sofar l f t t = sofar l f t f ++ [58, 58] := by
  unfold sofar
  rw [if_neg (by omega), if_pos (.inr (Nat.le_refl _)), Nat.sub_self]
  simp [hexJoin, Lib.join_nil]
theorem sofar_last {l : List Nat} {f t i : Nat} (hif : t = 0 ∨ (f + 2 ≤ t ∧ (i < f ∨ t ≤ i))) (hi : i ≤ l.length) (h : sofar l f t i ≠ []) : ((sofar l f t i).getLast h = 58) ↔ (t ≠ 0 ∧ i = t) := by
  by_cases h2 : t = 0 ∨ i ≤ f
  · have e : sofar l f t i = hexJoin (l.take i) := if_pos h2
    have hl : okC ((sofar l f t i).getLast h) := by
      have := hexJoin_last (xs := l.take i) (by rw [← e]; exact h)
      simpa only [e] using this
    exact ⟨fun h' => absurd h' (okC_no hl).1, fun h' => by omega⟩
  · have e : sofar l f t i = hexJoin (l.take f) ++ [58, 58] ++ hexJoin ((l.drop t).take (i - t)) := if_neg h2
    have h3 : f + 2 ≤ t ∧ t ≤ i := by omega
    by_cases ht : i = t
    · refine ⟨fun _ => ⟨by omega, ht⟩, fun _ => ?_⟩
      have e2 : sofar l f t i = hexJoin (l.take f) ++ [58] ++ [58] := by rw [e, ht, Nat.sub_self]; simp [hexJoin, Lib.join_nil]
      have h1 : (hexJoin (l.take f) ++ [58] ++ [58]).getLast? = some ((sofar l f t i).getLast h) := (congrArg List.getLast? e2).symm.trans (List.getLast?_eq_some_getLast h)
      rw [List.getLast?_concat] at h1
      exact (Option.some.inj h1).symm
    · refine ⟨fun h' => ?_, fun h' => absurd h'.2 ht⟩
      have hne : (l.drop t).take (i - t) ≠ [] := fun e' => by
        have := congrArg List.length e'
        rw [List.length_take, List.length_drop] at this
        simp at this
        omega
      have hj := hexJoin_last (hexJoin_ne hne)
      have h1 : (hexJoin (l.take f) ++ [58, 58] ++ hexJoin ((l.drop t).take (i - t))).getLast? = some ((sofar l f t i).getLast h) := (congrArg List.getLast? e).symm.trans (List.getLast?_eq_some_getLast h)
      have h4 := List.getLast?_eq_some_getLast (hexJoin_ne hne)
      rw [List.getLast?_append, h4] at h1
      have h5 : (hexJoin ((l.drop t).take (i - t))).getLast (hexJoin_ne hne) = (sofar l f t i).getLast h := by simpa using h1
      rw [h5] at hj
      exact absurd h' (okC_no hj).1
theorem sofar_end {l : List Nat} (hl : l.length = 8) : sofar l (gapB (isZ l)).1 (gapB (isZ l)).2 8 = txt6 l := by
  have hbl : (isZ l).length = 8 := by unfold isZ; rw [List.length_map]; exact hl
  unfold sofar txt6
  rcases gap_of (isZ l) hbl with h0 | ⟨h1, h2, h3⟩
  · rw [if_pos (.inl h0), if_neg (fun h => by
      rw [List.all_eq_true] at h
      have : isZ l = List.replicate 8 true := by
        rw [← hbl]
        exact List.eq_replicate_iff.2 ⟨rfl, fun b hb => h b hb⟩
      rw [this] at h0
      exact absurd h0 (by decide)), if_pos h0, List.take_of_length_le (by omega)]
  · rw [if_neg (by omega), List.take_of_length_le (l := l.drop _) (by rw [List.length_drop]; omega)]
    by_cases hz : (isZ l).all id = true
    · rw [if_pos hz]
      rw [List.all_eq_true] at hz
      have : isZ l = List.replicate 8 true := by
        rw [← hbl]
        exact List.eq_replicate_iff.2 ⟨rfl, fun b hb => hz b hb⟩
      rw [this]
      have hg : gapB (List.replicate 8 true) = (0, 8) := by decide
      rw [hg, List.drop_of_length_le (by omega)]
      rfl
    · rw [if_neg hz, if_neg (by omega)]
theorem sofar_len (l : List Nat) (f t i : Nat) (hl : l.length = 8) : (sofar l f t i).length ≤ 100 := by
  unfold sofar
  split
  · have := hexJoin_len (l.take i)
    rw [List.length_take] at this
    omega
  · have h1 := hexJoin_len (l.take f)
    have h2 := hexJoin_len ((l.drop t).take (i - t))
    rw [List.length_take] at h1
    rw [List.length_take, List.length_drop] at h2
    simp only [List.length_append, List.length_cons, List.length_nil]
    omega
theorem textR_call (n : Nat) (hn : n < 65536) (w : World) : Calls Tryd.prog 34 #[.int .u64 (n : Int), .int .u64 16] w fun e w' => e = .returned (.string (B (hexU n))) ∧ Below w.heap.size w w' :=
  (bastionref07_text.calls 5 (n : Int) 16 (B (hexU n)) w (text16 n hn 0)).mono fun e w' h => ⟨h.1, h.2.below⟩
set_option maxHeartbeats 8000000 in
theorem textRV6_calls (n0 n1 n2 n3 n4 n5 n6 n7 : Nat) (hn : ∀ x ∈ [n0, n1, n2, n3, n4, n5, n6, n7], x < 65536) (w : World) :
    Calls Tryd.prog 20 #[.agg #[.int .u16 (n0 : Int), .int .u16 (n1 : Int), .int .u16 (n2 : Int), .int .u16 (n3 : Int), .int .u16 (n4 : Int), .int .u16 (n5 : Int), .int .u16 (n6 : Int), .int .u16 (n7 : Int)]] w fun e w' => e = .returned (.string (B (txt6 [n0, n1, n2, n3, n4, n5, n6, n7]))) ∧ Below w.heap.size w w' := by
  have e34 : ∀ args w, (callFunc 34 args).run Tryd.prog w = .ok (.enter 34 args) w := enters_of Tryd.func34 (by kernel_rfl) rfl
  have hcell := gap_cell w #[.int .u16 (n0 : Int), .int .u16 (n1 : Int), .int .u16 (n2 : Int), .int .u16 (n3 : Int), .int .u16 (n4 : Int), .int .u16 (n5 : Int), .int .u16 (n6 : Int), .int .u16 (n7 : Int)] 27 ([n0, n1, n2, n3, n4, n5, n6, n7].map fun x : Nat => (x : Int)) rfl
  obtain ⟨l, hl⟩ : ∃ l, l = [n0, n1, n2, n3, n4, n5, n6, n7] := ⟨_, rfl⟩
  rw [← hl] at hcell hn ⊢
  have hlen : l.length = 8 := by rw [hl]; rfl
  have hcell' : ∀ k, (hk : k < l.length) → (w.alloc (.cells #[.int .u16 (n0 : Int), .int .u16 (n1 : Int), .int .u16 (n2 : Int), .int .u16 (n3 : Int), .int .u16 (n4 : Int), .int .u16 (n5 : Int), .int .u16 (n6 : Int), .int .u16 (n7 : Int)] 27)).cell? ⟨w.heap.size, k, none⟩ = some (.int .u16 ((l[k]'hk : Nat) : Int)) := fun k hk => by
    have := hcell k (by rw [List.length_map]; exact hk)
    rw [List.getD_eq_getElem?_getD, List.getElem?_map, List.getElem?_eq_getElem hk] at this
    exact this
  have HC := Lib.hid hcell'
  have HL := Lib.hid hlen
  have HN := Lib.hid hn
  have hW0 : Below w.heap.size w (w.alloc (.cells #[.int .u16 (n0 : Int), .int .u16 (n1 : Int), .int .u16 (n2 : Int), .int .u16 (n3 : Int), .int .u16 (n4 : Int), .int .u16 (n5 : Int), .int .u16 (n6 : Int), .int .u16 (n7 : Int)] 27)) := (Below.refl _ w).alloc (Nat.le_refl _) _
  have HW0 := Lib.hid hW0
  clear hW0 hcell hcell' hlen hn hl
  obtain ⟨bs, hbs⟩ : ∃ bs, bs = isZ l := ⟨_, rfl⟩
  have hbl : bs.length = 8 := by rw [hbs]; unfold isZ; rw [List.length_map]; exact HL.out
  have hbg : ∀ k, (hk : k < l.length) → bs[k]? = some (l[k] == 0) := fun k hk => by rw [hbs]; unfold isZ; rw [List.getElem?_map, List.getElem?_eq_getElem hk]; rfl
  have HBS := Lib.hid hbs
  have HBL := Lib.hid hbl
  have HBG := Lib.hid hbg
  clear hbs hbl hbg
  go_enter Tryd.func20, Tryd.ntmps20
  go_wp2
  obtain ⟨W, hW⟩ : ∃ W, W = w.alloc (.cells #[.int .u16 (n0 : Int), .int .u16 (n1 : Int), .int .u16 (n2 : Int), .int .u16 (n3 : Int), .int .u16 (n4 : Int), .int .u16 (n5 : Int), .int .u16 (n6 : Int), .int .u16 (n7 : Int)] 27) := ⟨_, rfl⟩
  rw [← hW] at HC HW0 ⊢
  clear hW
  go_loopg [3, 4, 5, 6] 8 (fun gg s3 s4 s5 _ wr => ∃ (kk f t : Nat) (fr lg : Int), s5 = .int .i64 kk ∧ s3 = .int .i64 fr ∧ s4 = .int .i64 lg ∧ wr = W ∧ Hid (((kk ≤ 8 ∧ 8 - kk ≤ gg) ∧ f ≤ t ∧ t ≤ 8 ∧ ((t = 0 ∧ fr = -1 ∧ lg = 1) ∨ (f + 2 ≤ t ∧ fr = f ∧ lg = t - f))) ∧ gapB bs = gapF kk (bs.drop kk) (f, t)))
  case atStart => exact ⟨0, 0, 0, -1, 1, rfl, rfl, rfl, rfl, Lib.hid ⟨⟨⟨by omega, by omega⟩, by omega, by omega, .inl ⟨rfl, rfl, rfl⟩⟩, rfl⟩⟩
  case round =>
    obtain ⟨kk, f, t, fr, lg, rfl, rfl, rfl, rfl, HI⟩ := hrel
    by_cases hlt : kk < 8
    · have hltz : (kk : Int) < 8 := by omega
      have hlg : 1 ≤ lg ∧ lg ≤ 8 := by have := HI.out.1; omega
      obtain ⟨hlg1, hlg2⟩ := hlg
      go_wp2
      go_loopg [6] 8 (fun gg s6 wr' => ∃ m : Nat, s6 = .int .i64 m ∧ wr' = wr ∧ Hid ((kk + m ≤ 8 ∧ 8 - (kk + m) ≤ gg) ∧ zeros (bs.drop kk) = m + zeros (bs.drop (kk + m))))
      case atStart => exact ⟨0, rfl, rfl, Lib.hid ⟨⟨by omega, by omega⟩, by simp⟩⟩
      case round =>
        obtain ⟨m, rfl, rfl, HK⟩ := hrel
        have hk1 := HK.out.1
        by_cases hk8 : kk + m < 8
        · have hk8z : (kk : Int) + m < 8 := by omega
          have hkl : kk + m < l.length := by rw [HL.out]; exact hk8
          have c0 := HC.out (kk + m) hkl
          obtain ⟨x, hx⟩ : ∃ x, x = l[kk + m]'hkl := ⟨_, rfl⟩
          rw [← hx] at c0
          have hbg := HBG.out (kk + m) hkl
          rw [← hx] at hbg
          have HBX := Lib.hid hbg
          clear hx hbg hkl
          by_cases hz : x = 0
          · have hz2 : ((x : Int) == 0) = true := by rw [hz]; rfl
            have HZ := Lib.hid hz
            clear hz
            go_wp2
            go_roundg (8 - (kk + (m + 1)))
            case measure => have := HK.out.1; omega
            case rel =>
              refine ⟨m + 1, by go_num, rfl, Lib.hid ⟨⟨by omega, by omega⟩, ?_⟩⟩
              obtain ⟨hk', hv⟩ := List.getElem?_eq_some_iff.1 HBX.out
              have h4 := HK.out.2
              rw [List.drop_eq_getElem_cons hk', hv, HZ.out] at h4
              have : zeros (((0 : Nat) == 0) :: bs.drop (kk + m + 1)) = zeros (bs.drop (kk + m + 1)) + 1 := if_pos rfl
              rw [this] at h4
              rw [h4, Nat.add_assoc kk m 1]
              omega
          · have hz2 : ((x : Int) == 0) = false := by rw [beq_eq_false_iff_ne]; omega
            have hzz : zeros (bs.drop kk) = m := by
              obtain ⟨hk', hv⟩ := List.getElem?_eq_some_iff.1 HBX.out
              have h4 := HK.out.2
              rw [List.drop_eq_getElem_cons hk', hv, beq_eq_false_iff_ne.2 hz] at h4
              exact h4
            have HZZ := Lib.hid hzz
            clear hzz hz
            by_cases hm : lg < m
            · go_wp2
              go_roundg (8 - (kk + 1))
              case measure => have := HI.out.1; omega
              case rel =>
                have hi := HI.out.1
                refine ⟨kk + 1, kk, kk + m, kk, m, by go_num, rfl, rfl, rfl, Lib.hid ⟨⟨⟨by omega, by omega⟩, by omega, by omega, .inr ⟨by omega, rfl, by omega⟩⟩, ?_⟩⟩
                rw [HI.out.2, gap_step (by rw [HBL.out]; omega) HZZ.out, if_pos (by show max (t - f) 1 < m; omega)]
            · go_wp2
              go_roundg (8 - (kk + 1))
              case measure => have := HI.out.1; omega
              case rel =>
                have hi := HI.out.1
                refine ⟨kk + 1, f, t, fr, lg, by go_num, rfl, rfl, rfl, Lib.hid ⟨⟨⟨by omega, by omega⟩, hi.2⟩, ?_⟩⟩
                rw [HI.out.2, gap_step (by rw [HBL.out]; omega) HZZ.out, if_neg (by show ¬ max (t - f) 1 < m; omega)]
        · have hkm : kk + m = 8 := by omega
          have hzz : zeros (bs.drop kk) = m := by
            have h4 := HK.out.2
            rw [hkm, List.drop_of_length_le (i := 8) (l := bs) (by rw [HBL.out]; exact Nat.le_refl _)] at h4
            exact h4
          have HZZ := Lib.hid hzz
          have hk8z : ¬ (kk : Int) + m < 8 := by omega
          clear hzz hkm
          by_cases hm : lg < m
          · go_wp2
            go_roundg (8 - (kk + 1))
            case measure => have := HI.out.1; omega
            case rel =>
              have hi := HI.out.1
              refine ⟨kk + 1, kk, kk + m, kk, m, by go_num, rfl, rfl, rfl, Lib.hid ⟨⟨⟨by omega, by omega⟩, by omega, by omega, .inr ⟨by omega, rfl, by omega⟩⟩, ?_⟩⟩
              rw [HI.out.2, gap_step (by rw [HBL.out]; omega) HZZ.out, if_pos (by show max (t - f) 1 < m; omega)]
          · go_wp2
            go_roundg (8 - (kk + 1))
            case measure => have := HI.out.1; omega
            case rel =>
              have hi := HI.out.1
              refine ⟨kk + 1, f, t, fr, lg, by go_num, rfl, rfl, rfl, Lib.hid ⟨⟨⟨by omega, by omega⟩, hi.2⟩, ?_⟩⟩
              rw [HI.out.2, gap_step (by rw [HBL.out]; omega) HZZ.out, if_neg (by show ¬ max (t - f) 1 < m; omega)]
    · obtain rfl : kk = 8 := by have := HI.out.1; omega
      have hgg : gapB bs = (f, t) := by rw [HI.out.2, List.drop_of_length_le (by rw [HBL.out]; exact Nat.le_refl _)]; rfl
      have hft := HI.out.1.2
      have HG := Lib.hid hgg
      have HFT := Lib.hid hft
      clear hgg hft hlt HI
      have h0 : sofar l f t 0 = [] := if_pos (.inr (Nat.zero_le _))
      have H0 := Lib.hid h0
      clear h0
      go_wp2
      go_loopg [7, 8] 8 (fun gg s7 s8 wq => ∃ i : Nat, s7 = .string (B (sofar l f t i)) ∧ s8 = .int .i64 i ∧ Hid (Below wr.heap.size wr wq ∧ (i ≤ 8 ∧ 8 - i ≤ gg) ∧ (t = 0 ∨ i ≤ f ∨ t ≤ i)))
      case atStart => exact ⟨0, by rw [H0.out]; rfl, rfl, Lib.hid ⟨Below.refl _ _, ⟨by omega, by omega⟩, .inr (.inl (Nat.zero_le _))⟩⟩
      case round =>
        obtain ⟨i, rfl, rfl, HI⟩ := hrel
        have hsz : (B (sofar l f t i)).size ≤ 100 := by rw [B_size]; exact sofar_len l f t i HL.out
        obtain ⟨s, hs⟩ : ∃ s, s = B (sofar l f t i) := ⟨_, rfl⟩
        rw [← hs] at hsz ⊢
        have HS := Lib.hid hs
        clear hs
        by_cases hi8 : i < 8
        · have hi8z : (i : Int) < 8 := by omega
          by_cases hf : (i : Int) = fr
          · have hfb : ((i : Int) == fr) = true := by rw [hf]; exact beq_self_eq_true _
            have hft : f + 2 ≤ t ∧ i = f ∧ lg = t - f := by have := HFT.out; omega
            have hlgz : lg = (t : Int) - f := hft.2.2
            have hfi : fr = (i : Int) := hf.symm
            subst hlgz
            obtain rfl : i = f := hft.2.1
            have ht8 : t ≤ 8 := HFT.out.2.1
            have hf2 : i + 2 ≤ t := hft.1
            clear hft hf
            have q1 : (9223372036854775807 < s.size + 2) = False := eq_false (by omega)
            subst hfi
            go_wp2
            go_roundg (8 - t)
            case measure => have := HI.out.2.1; omega
            case rel =>
              refine ⟨t, ?_, by go_num, Lib.hid ⟨HI.out.1, ⟨by omega, by omega⟩, .inr (.inr (Nat.le_refl _))⟩⟩
              rw [sofar_gap hf2, ← B_append, ← HS.out]
              rfl
          · have hfb : ((i : Int) == fr) = false := by rw [beq_eq_false_iff_ne]; exact hf
            have hii : t = 0 ∨ (f + 2 ≤ t ∧ (i < f ∨ t ≤ i)) := by have h1 := HFT.out; have h2 := HI.out.2.2; omega
            have hil : i < l.length := by rw [HL.out]; exact hi8
            obtain ⟨x, hx⟩ : ∃ x, x = l[i]'hil := ⟨_, rfl⟩
            have hx65 : x < 65536 := HN.out x (by rw [hx]; exact List.getElem_mem _)
            have hcx : wr.cell? ⟨w.heap.size, i, none⟩ = some (.int .u16 (x : Int)) := by rw [hx]; exact (HI.out.1.cell (World.block_lt_of_cell? _ _ (HC.out i hil))).trans (HC.out i hil)
            have hsm := sofar_more (l := l) (x := x) (by rw [hx]; exact List.getElem?_eq_getElem hil) hii
            have hsl := sofar_last hii (by omega : i ≤ l.length)
            have hcall : ∀ W, Calls Tryd.prog 34 #[.int .u64 (IntKind.u64.wrap (x : Int)), .int .u64 16] W fun e w' => e = .returned (.string (B (hexU x))) ∧ Below W.heap.size W w' := fun W => by rw [show IntKind.u64.wrap (x : Int) = x from by rw [IntKind.wrap_u64]; omega]; exact textR_call x hx65 W
            have HSM := Lib.hid hsm
            have HSL := Lib.hid hsl
            have HNF := Lib.hid hf
            clear hsm hsl hx hf hii hx65 hil
            obtain ⟨y, hy⟩ : ∃ y, y = B (hexU x) := ⟨_, rfl⟩
            simp only [← hy] at hcall
            have hys : y.size ≤ 4 := by rw [hy, B_size]; exact (hexU_len x).2
            have HY := Lib.hid hy
            clear hy
            by_cases hse : sofar l f t i = []
            · have hs0 : s = ⟨#[]⟩ := by rw [HS.out, hse]; rfl
              have hsm : sofar l f t (i + 1) = hexU x := by rw [HSM.out, if_pos hse]
              have HX := Lib.hid hsm
              clear HSM HSL hse hsm HS hsz
              subst hs0
              go_wp2_with fail
              refine (hcall _).mono ?_
              rintro e w2 ⟨rfl, hb2⟩
              have HB2 := Lib.hid (HI.out.1.trans (hb2.mono HI.out.1.size))
              clear hb2
              go_wp2
              go_roundg (8 - (i + 1))
              case measure => have := HI.out.2.1; omega
              case rel =>
                refine ⟨i + 1, ?_, by go_num, Lib.hid ⟨HB2.out, ⟨by omega, by omega⟩, by have h1 := HFT.out; have h2 := HI.out.2.2; have h3 := HNF.out; omega⟩⟩
                rw [HX.out, HY.out]
                exact congrArg Value.string (B_append [] (hexU x))
            · have hs1 : 1 ≤ s.size := by rw [HS.out, B_size]; exact List.length_pos_iff.2 hse
              have hs2 : s.toList.isEmpty = false := by rw [HS.out, B_toList]; exact List.isEmpty_eq_false_iff.2 hse
              have hs3 : ¬ s.toList = [] := by rw [HS.out, B_toList]; exact hse
              have hlast : ((s[s.size - 1]'(by omega)).toNat : Int) = 58 ↔ (t ≠ 0 ∧ i = t) := by
                rw [← HSL.out hse]
                have e : s[s.size - 1]'(by omega) = (sofar l f t i).getLast hse := by
                  have h1 := HS.out
                  subst h1
                  rw [List.getLast_eq_getElem]
                  rfl
                rw [e]
                generalize (sofar l f t i).getLast hse = z
                constructor
                · intro h
                  apply UInt8.toNat_inj.1
                  show z.toNat = 58
                  omega
                · rintro rfl
                  rfl
              by_cases ht : t ≠ 0 ∧ i = t
              · have hzb : (((s[s.size - 1]'(by omega)).toNat : Int) != 58) = false := by rw [hlast.2 ht]; rfl
                have hsm : sofar l f t (i + 1) = sofar l f t i ++ hexU x := by rw [HSM.out, if_neg hse, if_pos ht]
                have HX := Lib.hid hsm
                have q1 : (9223372036854775807 < s.size + y.size) = False := eq_false (by omega)
                clear HSM HSL hse hsm hlast ht
                go_wp2_with fail
                refine (hcall _).mono ?_
                rintro e w2 ⟨rfl, hb2⟩
                have HB2 := Lib.hid (HI.out.1.trans (hb2.mono HI.out.1.size))
                clear hb2
                go_wp2
                go_roundg (8 - (i + 1))
                case measure => have := HI.out.2.1; omega
                case rel =>
                  refine ⟨i + 1, ?_, by go_num, Lib.hid ⟨HB2.out, ⟨by omega, by omega⟩, by have h1 := HFT.out; have h2 := HI.out.2.2; have h3 := HNF.out; omega⟩⟩
                  rw [HX.out, HY.out, HS.out]
                  exact congrArg Value.string (B_append _ _)
              · have hzb : (((s[s.size - 1]'(by omega)).toNat : Int) != 58) = true := by rw [bne_iff_ne]; exact fun e => ht (hlast.1 e)
                have hsm : sofar l f t (i + 1) = sofar l f t i ++ [58] ++ hexU x := by rw [HSM.out, if_neg hse, if_neg ht]
                have HX := Lib.hid hsm
                have q1 : (9223372036854775807 < s.size + 1) = False := eq_false (by omega)
                have q2 : (9223372036854775807 < s.size + 1 + y.size) = False := eq_false (by omega)
                clear HSM HSL hse hsm hlast ht
                go_wp2_with fail
                refine (hcall _).mono ?_
                rintro e w2 ⟨rfl, hb2⟩
                have HB2 := Lib.hid (HI.out.1.trans (hb2.mono HI.out.1.size))
                clear hb2
                go_wp2
                go_roundg (8 - (i + 1))
                case measure => have := HI.out.2.1; omega
                case rel =>
                  refine ⟨i + 1, ?_, by go_num, Lib.hid ⟨HB2.out, ⟨by omega, by omega⟩, by have h1 := HFT.out; have h2 := HI.out.2.2; have h3 := HNF.out; omega⟩⟩
                  rw [HX.out, HY.out, HS.out]
                  rw [← B_append, ← B_append]
                  rfl
        · obtain rfl : i = 8 := by have := HI.out.2.1; omega
          have hss : s = B (txt6 l) := by
            rw [HS.out, ← sofar_end HL.out, ← HBS.out, HG.out]
          have HSS := Lib.hid hss
          clear hss hi8
          go_wp2
          go_ret
          exact ⟨by rw [HSS.out]; rfl, HW0.out.trans (HI.out.1.mono HW0.out.size)⟩
def bastionref07_TextV6.f (k : Nat) (a0 a1 a2 a3 a4 a5 a6 a7 : Int) : Option ByteArray := if ∀ x ∈ ([a0, a1, a2, a3, a4, a5, a6, a7] : List Int), 0 ≤ x ∧ x < 65536 then some ⟨(txt6 ([a0, a1, a2, a3, a4, a5, a6, a7].map Int.toNat)).toArray⟩ else none
theorem bastionref07_TextV6.calls (k : Nat) (a0 a1 a2 a3 a4 a5 a6 a7 : Int) (r : ByteArray) (w : World) (h : bastionref07_TextV6.f k a0 a1 a2 a3 a4 a5 a6 a7 = some r) :
    Calls Tryd.prog 20 #[.agg #[.int .u16 a0, .int .u16 a1, .int .u16 a2, .int .u16 a3, .int .u16 a4, .int .u16 a5, .int .u16 a6, .int .u16 a7]] w fun e w' => e = .returned (.string r) ∧ Below w.heap.size w w' := by
  unfold bastionref07_TextV6.f at h
  split at h
  · rename_i hs
    obtain rfl := Option.some.inj h
    obtain ⟨n0, rfl⟩ : ∃ n : Nat, a0 = n := ⟨a0.toNat, by have := hs a0 (by simp); omega⟩
    obtain ⟨n1, rfl⟩ : ∃ n : Nat, a1 = n := ⟨a1.toNat, by have := hs a1 (by simp); omega⟩
    obtain ⟨n2, rfl⟩ : ∃ n : Nat, a2 = n := ⟨a2.toNat, by have := hs a2 (by simp); omega⟩
    obtain ⟨n3, rfl⟩ : ∃ n : Nat, a3 = n := ⟨a3.toNat, by have := hs a3 (by simp); omega⟩
    obtain ⟨n4, rfl⟩ : ∃ n : Nat, a4 = n := ⟨a4.toNat, by have := hs a4 (by simp); omega⟩
    obtain ⟨n5, rfl⟩ : ∃ n : Nat, a5 = n := ⟨a5.toNat, by have := hs a5 (by simp); omega⟩
    obtain ⟨n6, rfl⟩ : ∃ n : Nat, a6 = n := ⟨a6.toNat, by have := hs a6 (by simp); omega⟩
    obtain ⟨n7, rfl⟩ : ∃ n : Nat, a7 = n := ⟨a7.toNat, by have := hs a7 (by simp); omega⟩
    exact textRV6_calls _ _ _ _ _ _ _ _ (fun x hx => by
      have := hs (x : Int) (by
        simp only [List.mem_cons, List.not_mem_nil, or_false] at hx ⊢
        rcases hx with rfl | rfl | rfl | rfl | rfl | rfl | rfl | rfl <;> simp)
      omega) w
  · cases h
end Go.Proofs.YtkabhnbjjnjdhaaDoor.Q
