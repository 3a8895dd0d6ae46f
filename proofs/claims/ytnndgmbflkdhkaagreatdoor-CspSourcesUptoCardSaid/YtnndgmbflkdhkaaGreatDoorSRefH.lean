/- The document's answers on source expressions, plain: hosts. -/
import Derived.Test.YtnndgmbflkdhkaaGreatDoorSRefQ
import Derived.Test.YtnndgmbflkdhkaaGreatDoorSQbastionref14hostedA
set_option linter.unusedSimpArgs false
set_option linter.unusedVariables false
namespace Go.Proofs.YtnndgmbflkdhkaaGreatDoor.Q
open Go.RowKit Go.Proofs.YtnndgmbflkdhkaaGreatDoorW.PrintWords Go.Proofs.YtnndgmbflkdhkaaGreatDoorW.PrintLast Go.Proofs.YtnndgmbflkdhkaaGreatDoorW.PrintMore Go.Proofs.YtnndgmbflkdhkaaGreatDoor.P1
abbrev HostT := Int × ByteArray × ByteArray × Bool × Int × Bool × Bool × ByteArray × Bool
def Ans (x : HostR) (o : Option HostT) : Prop :=
  ∃ y, o = some y ∧ y.2.2.2.2.2.2.2.2 = x.2.2.2.2.2.2.2 ∧ (x.2.2.2.2.2.2.2 = true → y = (5, B x.1, B x.2.1, x.2.2.1, x.2.2.2.1, x.2.2.2.2.1, x.2.2.2.2.2.1, B x.2.2.2.2.2.2.1, true))
theorem ans_no {x : HostR} {o : Option HostT} {a : Int} {b c : ByteArray} {d : Bool} {e : Int} {f g : Bool} {h : ByteArray} (hx : x.2.2.2.2.2.2.2 = false) (ho : o = some (a, b, c, d, e, f, g, h, false)) : Ans x o :=
  ⟨_, ho, hx.symm, fun h => by rw [hx] at h; cases h⟩
theorem any_cons (c : UInt8) (t p : List UInt8) : Lib.containsAny (c :: t) p = (p.contains c || Lib.containsAny t p) := by
  have hg := Lib.indexAny_ge p t
  unfold Lib.containsAny
  conv => lhs; unfold Lib.indexAny
  cases h : p.contains c with
  | true => simp
  | false =>
    simp only [Bool.false_eq_true, if_false, Bool.false_or]
    split
    · rename_i h1
      have h1' : Lib.indexAny t p = -1 := by simpa using h1
      rw [h1']
    · rename_i h1
      have h1' : Lib.indexAny t p ≠ -1 := by simpa using h1
      rw [decide_eq_true (by omega), decide_eq_true (by omega)]
def okP (s : List UInt8) : Bool := (s.isEmpty || s.head? == some 47) && !Lib.containsAny s [59, 44, 63, 35]
theorem c59 (c : UInt8) : ((c.toNat : Int) = 59) = (c = 59) := c_eq c 59 (by omega)
theorem c44 (c : UInt8) : ((c.toNat : Int) = 44) = (c = 44) := c_eq c 44 (by omega)
theorem c63 (c : UInt8) : ((c.toNat : Int) = 63) = (c = 63) := c_eq c 63 (by omega)
theorem c35 (c : UInt8) : ((c.toNat : Int) = 35) = (c = 35) := c_eq c 35 (by omega)
theorem l1R (s : List UInt8) (hs : s.length ≤ 1048576) (a : Int) (b c : ByteArray) (d : Bool) (e : Int) (f g : Bool) (h : ByteArray) : ∀ (n k i : Nat), s.length - i = n → n < k → i ≤ s.length →
    bastionref14_hosted.l1 k (B s) (i : Int) a b c d e f g h = if Lib.containsAny (s.drop i) [59, 44, 63, 35] then some (a, b, c, d, e, f, g, h, false) else some (a, b, c, d, e, f, g, B s, true)
  | 0, k, i, hn, hk, hi => by
    obtain ⟨k, rfl⟩ : ∃ m, k = m + 1 := ⟨k - 1, by omega⟩
    simp only [bastionref14_hosted.l1]
    rw [if_neg (by rw [B_size]; omega), List.drop_eq_nil_of_le (by omega)]
    rfl
  | n + 1, k, i, hn, hk, hi => by
    obtain ⟨k, rfl⟩ : ∃ m, k = m + 1 := ⟨k - 1, by omega⟩
    have hlt : i < s.length := by omega
    have ih := l1R s hs a b c d e f g h n k (i + 1) (by omega) (by omega) (by omega)
    simp only [bastionref14_hosted.l1]
    rw [if_pos (by rw [B_size]; omega), if_pos (by omega), bt_at' s hlt, w64s hlt (by omega), ih, List.drop_eq_getElem_cons hlt, any_cons]
    simp only [c59, c44, c63, c35]
    generalize s[i] = x
    by_cases h1 : x = 59
    · simp [h1]
    · by_cases h2 : x = 44
      · simp [h2]
      · by_cases h3 : x = 63
        · simp [h3]
        · by_cases h4 : x = 35
          · simp [h4]
          · simp [h1, h2, h3, h4]
theorem j8R (s : List UInt8) (hs : s.length ≤ 1048576) (a : Int) (b c : ByteArray) (d : Bool) (e : Int) (f g : Bool) (h : ByteArray) (k : Nat) (hk : s.length + 2 < k) :
    bastionref14_hosted.j8 k (B s) a b c d e f g h = if okP s then some (a, b, c, d, e, f, g, B s, true) else some (a, b, c, d, e, f, g, h, false) := by
  obtain ⟨k, rfl⟩ : ∃ m, k = m + 2 := ⟨k - 2, by omega⟩
  have l1 := l1R s hs a b c d e f g h s.length k 0 (by omega) (by omega) (by omega)
  have l1' : bastionref14_hosted.l1 k (B s) 0 a b c d e f g h = _ := l1
  simp only [bastionref14_hosted.j8, bastionref14_hosted.j9]
  rw [B_toList, l1', List.drop_zero]
  unfold okP
  cases s with
  | nil => rfl
  | cons x t =>
    rw [if_neg (by simp), if_pos (by rw [B_size]; simp), show bt (B (x :: t)) 0 = (x.toNat : Int) from by have := bt_at' (x :: t) (i := 0) (by simp); simpa using this]
    have e47 : ((x.toNat : Int) != 47) = (x != 47) := by
      have := c_eq x 47 (by omega)
      rw [Bool.eq_iff_iff, bne_iff_ne, bne_iff_ne]
      exact not_congr (by rw [show ((x.toNat : Int) = 47) = (x = 47) from this])
    rw [e47]
    by_cases h47 : x = 47
    · subst h47
      cases Lib.containsAny (47 :: t) [59, 44, 63, 35] <;> simp
    · have : (x != 47) = true := by simpa using h47
      rw [this]
      simp [h47]
/-- what digits spell -/
def val : Nat → List UInt8 → Nat
  | a, [] => a
  | a, c :: t => val (a * 10 + (c.toNat - 48)) t
theorem val_ge : ∀ (l : List UInt8) (a : Nat), a ≤ val a l
  | [], a => Nat.le_refl _
  | c :: t, a => by
    have := val_ge t (a * 10 + (c.toNat - 48))
    unfold val
    omega
theorem val_app : ∀ (l : List UInt8) (a : Nat) (c : UInt8), val a (l ++ [c]) = val a l * 10 + (c.toNat - 48)
  | [], a, c => rfl
  | d :: t, a, c => by
    rw [List.cons_append]
    unfold val
    exact val_app t _ c
theorem pM_eq : ∀ (l : List UInt8) (a : Nat), (∀ c ∈ l, dig c = true) → a ≤ 65535 → Lib.parseUintM 65535 a l = if 65535 < val a l then .range else .ok (val a l)
  | [], a, _, ha => by
    unfold Lib.parseUintM val
    rw [if_neg (by omega)]
  | c :: t, a, h, ha => by
    have hc := h c (by simp)
    unfold dig at hc
    rw [Bool.and_eq_true, decide_eq_true_iff, decide_eq_true_iff] at hc
    unfold Lib.parseUintM val
    rw [if_pos hc, if_neg (by omega)]
    by_cases ho : 65535 < a * 10 + (c.toNat - 48)
    · have := val_ge t (a * 10 + (c.toNat - 48))
      rw [if_pos ho, if_pos (by omega)]
    · rw [if_neg ho]
      exact pM_eq t _ (fun d hd => h d (by simp [hd])) (by omega)
theorem puVal_dig (l : List UInt8) (h : ∀ c ∈ l, dig c = true) (hn : l ≠ []) : puVal l = if 65535 < val 0 l then (65535, false) else ((val 0 l : Int), true) := by
  unfold puVal Lib.parseUintB
  rw [if_neg hn, show 2 ^ 16 - 1 = 65535 from rfl, pM_eq l 0 h (by omega)]
  by_cases ho : 65535 < val 0 l
  · rw [if_pos ho, if_pos ho]
  · rw [if_neg ho, if_neg ho]
theorem take_digs (s : List UInt8) : s.take (digs s) = s.takeWhile dig := (List.prefix_iff_eq_take.1 (List.takeWhile_prefix _)).symm
theorem c42 (c : UInt8) : ((c.toNat : Int) = 42) = (c = 42) := c_eq c 42 (by omega)
theorem portF_num (s : List UInt8) (h : s.head? ≠ some 42) : (portF 0 false false (58 :: s)).2.1 = ((puVal (s.take (digs s))).2 && decide (digs s ≤ 5)) ∧
    ((portF 0 false false (58 :: s)).2.1 = true → portF 0 false false (58 :: s) = (s.drop (digs s), true, (puVal (s.take (digs s))).1, true, false)) := by
  cases s with
  | nil => exact ⟨rfl, fun h => by cases h⟩
  | cons d u =>
    have hd : ¬ d = 42 := by simpa using h
    unfold portF
    simp only [if_true, if_neg hd]
    exact ⟨trivial, fun h => by rw [h]⟩
theorem digit_sub (c : UInt8) (h : dig c = true) : ((c.toNat : Int) - 48) % 256 = ((c.toNat - 48 : Nat) : Int) ∧ c.toNat - 48 ≤ 9 := by
  unfold dig at h
  rw [Bool.and_eq_true, decide_eq_true_iff, decide_eq_true_iff] at h
  exact ⟨by omega, by omega⟩
theorem j6_stop (s : List UInt8) (hs : s.length ≤ 1048576) (h42 : s.head? ≠ some 42) (tx sc : List UInt8) (wild : Bool) (k : Nat) (hk : s.length + 10 < k) (h5 : digs s ≤ 5) :
    Ans (hostD tx sc wild (58 :: s)) (bastionref14_hosted.j6 k (B s) ((digs s : Nat) : Int) false 5 (B tx) (B sc) wild ((val 0 (s.take (digs s)) : Nat) : Int) false false (⟨#[]⟩ : ByteArray)) := by
  obtain ⟨k, rfl⟩ : ∃ m, k = m + 2 := ⟨k - 2, by omega⟩
  obtain ⟨p1, p2⟩ := portF_num s h42
  simp only [bastionref14_hosted.j6, Bool.false_eq_true, if_false]
  by_cases h0 : digs s = 0
  · have hbad : (portF 0 false false (58 :: s)).2.1 = false := by rw [p1, h0]; rfl
    rw [if_pos (by omega)]
    have bd : (hostD tx sc wild (58 :: s)).2.2.2.2.2.2.2 = false := by unfold hostD; rw [hbad]; rfl
    rw [B_toList]
    cases s with
    | nil =>
      simp only [bastionref14_hosted.j7, if_true]
      exact ans_no bd rfl
    | cons x t =>
      have hd : ¬ x = 42 := by simpa using h42
      rw [if_neg (by simp), if_pos (by rw [B_size]; simp), show bt (B (x :: t)) 0 = (x.toNat : Int) from by have := bt_at' (x :: t) (i := 0) (by simp); simpa using this]
      have e42 : ((x.toNat : Int) != 42) = true := by
        rw [bne_iff_ne]
        intro h
        exact hd ((c42 x).mp h)
      rw [e42]
      simp only [bastionref14_hosted.j7, if_true]
      exact ans_no bd rfl
  · rw [if_neg (by omega)]
    have hne : s.take (digs s) ≠ [] := by
      intro h
      have := congrArg List.length h
      rw [List.length_take, List.length_nil] at this
      have := digs_le s
      omega
    have hv := puVal_dig (s.take (digs s)) (by rw [take_digs]; intro c hc; exact List.all_eq_true.1 List.all_takeWhile c hc) hne
    rw [hv, decide_eq_true h5, Bool.and_true] at p1
    rw [hv] at p2
    by_cases ho : 65535 < val 0 (s.take (digs s))
    · rw [if_pos ho] at p1
      rw [if_pos (by omega)]
      exact ans_no (by unfold hostD; rw [p1]; rfl) rfl
    · rw [if_neg ho] at p1 p2
      have p2' := p2 p1
      have hle := digs_le s
      rw [if_neg (by omega), if_pos (by omega), if_pos (by rw [B_size]; omega), Int.toNat_natCast, B_extract_end, j8R (s.drop (digs s)) (by rw [List.length_drop]; omega) _ _ _ _ _ _ _ _ _ (by rw [List.length_drop]; omega)]
      unfold hostD
      rw [p2']
      show Ans (_, _, _, _, _, _, _, true && ((s.drop (digs s)).isEmpty || (s.drop (digs s)).head? == some 47) && !Lib.containsAny (s.drop (digs s)) [59, 44, 63, 35]) _
      rw [Bool.true_and]
      cases hok : okP (s.drop (digs s)) with
      | true =>
        unfold okP at hok
        exact ⟨_, rfl, hok.symm, fun _ => rfl⟩
      | false =>
        unfold okP at hok
        exact ans_no hok rfl
theorem pow_5 (i : Nat) (h : i ≤ 5) : 10 ^ i ≤ 100000 := Nat.pow_le_pow_right (by omega) h
theorem l0R (s : List UInt8) (hs : s.length ≤ 1048576) (h42 : s.head? ≠ some 42) (tx sc : List UInt8) (wild : Bool) : ∀ (n k i : Nat), digs s - i = n → 2 * n + s.length + 20 < k → i ≤ digs s → i ≤ 5 → val 0 (s.take i) < 10 ^ i →
    Ans (hostD tx sc wild (58 :: s)) (bastionref14_hosted.l0 k (B s) (i : Int) 5 (B tx) (B sc) wild ((val 0 (s.take i) : Nat) : Int) false false (⟨#[]⟩ : ByteArray))
  | 0, k, i, hn, hk, hi, h5, hx => by
    obtain ⟨k, rfl⟩ : ∃ m, k = m + 1 := ⟨k - 1, by omega⟩
    obtain rfl : i = digs s := by omega
    have js := j6_stop s hs h42 tx sc wild k (by omega) h5
    simp only [bastionref14_hosted.l0]
    by_cases hlt : digs s < s.length
    · rw [if_pos (by rw [B_size]; omega), if_pos (by omega), bt_at' s hlt, digitR, digs_stop s hlt]
      exact js
    · rw [if_neg (by rw [B_size]; omega)]
      exact js
  | n + 1, k, i, hn, hk, hi, h5, hx => by
    obtain ⟨k, rfl⟩ : ∃ m, k = m + 2 := ⟨k - 2, by omega⟩
    obtain ⟨hlt, hdig⟩ := digs_run s i (by omega)
    have hv : val 0 (s.take (i + 1)) = val 0 (s.take i) * 10 + (s[i].toNat - 48) := by
      rw [List.take_add_one, List.getElem?_eq_getElem hlt, Option.toList_some, val_app]
    obtain ⟨ds, d9⟩ := digit_sub s[i] hdig
    have hp5 := pow_5 i h5
    have hx2 : val 0 (s.take (i + 1)) < 10 ^ (i + 1) := by
      rw [hv, Nat.pow_succ]
      generalize 10 ^ i = q at *
      omega
    have hlt5 : val 0 (s.take i) < 100000 := Nat.lt_of_lt_of_le hx hp5
    clear hp5
    have f1 : (0 : Int) ≤ (i : Int) := by omega
    have f2 : (i : Int) < ((B s).size : Int) := by rw [B_size]; omega
    have ih := l0R s hs h42 tx sc wild n k (i + 1) (by omega) (by omega) (by omega)
    have f6 : 5 < i + 1 → decide (digs s ≤ 5) = false := fun h => decide_eq_false (by omega)
    have f7 : ¬ 5 < i + 1 → ¬ (((i + 1 : Nat) : Int) > 5) := fun h => by omega
    have f8 : 5 < i + 1 → (((i + 1 : Nat) : Int) > 5) := fun h => by omega
    have f9 : ¬ 5 < i + 1 → i + 1 ≤ 5 := fun h => by omega
    have fw := w64s hlt (by omega)
    have hw1 : wrap64 (10 * ((val 0 (s.take i) : Nat) : Int)) = 10 * ((val 0 (s.take i) : Nat) : Int) := w64 (by omega) (by omega)
    have hw2 : wrap64 (10 * ((val 0 (s.take i) : Nat) : Int) + ((s[i].toNat - 48 : Nat) : Int)) = ((val 0 (s.take (i + 1)) : Nat) : Int) := by rw [w64 (by omega) (by omega), hv]; omega
    simp only [bastionref14_hosted.l0]
    rw [if_pos f2, if_pos f1, bt_at' s hlt, digitR, hdig]
    simp only [Option.bind_some, bastionref14_hosted.j6, if_true]
    rw [if_pos f1, if_pos f2, fw, bt_at' s hlt, ds, hw1, hw2]
    clear hw1 hw2 fw
    by_cases h6 : 5 < i + 1
    · rw [if_pos (f8 h6)]
      obtain ⟨p1, _⟩ := portF_num s h42
      exact ans_no (by unfold hostD; rw [p1, f6 h6]; simp) rfl
    · rw [if_neg (f7 h6)]
      exact ih (f9 h6) hx2
theorem j4R (r : List UInt8) (hr : r.length ≤ 1048576) (tx sc : List UInt8) (wild : Bool) (k : Nat) (hk : 3 * r.length + 40 < k) :
    Ans (hostD tx sc wild r) (bastionref14_hosted.j4 k (B r) (r.head? == some 58) 5 (B tx) (B sc) wild 0 false false (⟨#[]⟩ : ByteArray)) := by
  obtain ⟨k, rfl⟩ : ∃ m, k = m + 4 := ⟨k - 4, by omega⟩
  simp only [bastionref14_hosted.j4]
  have fin : ∀ r' p hp ap, portF 0 false false r = (r', true, p, hp, ap) → r'.length ≤ 1048576 → ∀ k', r'.length + 2 < k' → Ans (hostD tx sc wild r) (bastionref14_hosted.j8 k' (B r') 5 (B tx) (B sc) wild p hp ap (⟨#[]⟩ : ByteArray)) := fun r' p hp ap hpf hl k' hk' => by
    rw [j8R r' hl _ _ _ _ _ _ _ _ _ hk']
    unfold hostD
    rw [hpf]
    show Ans (_, _, _, _, _, _, _, true && (r'.isEmpty || r'.head? == some 47) && !Lib.containsAny r' [59, 44, 63, 35]) _
    rw [Bool.true_and]
    cases hok : okP r' with
    | true =>
      unfold okP at hok
      exact ⟨_, rfl, hok.symm, fun _ => rfl⟩
    | false =>
      unfold okP at hok
      exact ans_no hok rfl
  cases r with
  | nil => exact fin [] 0 false false rfl (by simp) (k + 3) (by simp only [List.length_nil] at hk ⊢; omega)
  | cons c t =>
    by_cases hc : c = 58
    · subst hc
      have : ((58 :: t : List UInt8).head? == some 58) = true := by simp
      rw [this]
      simp only [if_true]
      have hx : (B (58 :: t)).extract 1 (B (58 :: t)).size = B t := by rw [B_extract_end]; rfl
      rw [if_pos (by rw [B_size, List.length_cons]; omega), hx]
      simp only [List.length_cons] at hr hk
      by_cases h42 : t.head? = some 42
      · obtain ⟨u, rfl⟩ : ∃ u, t = 42 :: u := by
          cases t with
          | nil => cases h42
          | cons a b => exact ⟨b, by rw [show a = 42 from by simpa using h42]⟩
        have f := fin u 0 false true rfl (by simp at hr; omega)
        have e0 : bt (B (42 :: u)) 0 = 42 := by have := bt_at' (42 :: u) (i := 0) (by simp); simpa using this
        have hx2 : (B (42 :: u)).extract 1 (B (42 :: u)).size = B u := by rw [B_extract_end]; rfl
        have d42 : bastionref14_digit.f 42 = some false := digitR 42
        have z1 : (0 : Int) < ((B (42 :: u)).size : Int) := by rw [B_size]; simp
        have z2 : (1 : Int) ≤ ((B (42 :: u)).size : Int) := by rw [B_size, List.length_cons]; omega
        have z3 : ¬ (B (42 :: u)).toList = ([] : List UInt8) := by rw [B_toList]; simp
        simp only [bastionref14_hosted.l0, if_pos z1, e0, d42, Option.bind_some, bastionref14_hosted.j6, Bool.false_eq_true, if_false, if_true, if_neg z3, bne_self_eq_false, bastionref14_hosted.j7, if_pos z2, hx2]
        simp only [Int.le_refl, if_true, show ¬ (0 : Int) > 65535 from by decide, if_false]
        exact f _ (by simp at hk; omega)
      · have h0 := l0R t (by omega) h42 tx sc wild (digs t) (k + 3) 0 (by omega) (by have := digs_le t; omega) (by omega) (by omega) (by rw [List.take_zero]; decide)
        exact h0
    · have : ((c :: t).head? == some 58) = false := by simpa using hc
      rw [this]
      simp only [Bool.false_eq_true, if_false]
      refine fin (c :: t) 0 false false ?_ hr _ (by omega)
      show (if c = 58 then _ else _) = _
      rw [if_neg hc]
theorem j3R (r : List UInt8) (hr : r.length ≤ 1048576) (n : Nat) (hn : n ≤ r.length) (sc : List UInt8) (wild : Bool) (k : Nat) (hk : 3 * r.length + 60 < k) :
    Ans (hostD (low (r.take n)) sc wild (r.drop n)) (bastionref14_hosted.j3 k (B r) (n : Int) 5 (⟨#[]⟩ : ByteArray) (B sc) wild 0 false false (⟨#[]⟩ : ByteArray)) := by
  obtain ⟨k, rfl⟩ : ∃ m, k = m + 1 := ⟨k - 1, by omega⟩
  have hd : (r.drop n).length ≤ r.length := by rw [List.length_drop]; omega
  have j := j4R (r.drop n) (by omega) (low (r.take n)) sc wild k (by omega)
  simp only [bastionref14_hosted.j3]
  rw [if_neg (by omega), if_pos (by omega), if_pos (by rw [B_size]; omega), Int.toNat_natCast, B_extract, List.drop_zero, Nat.sub_zero, lowerR _ (by rw [List.length_take]; omega) _ (by rw [List.length_take]; omega), B_extract_end, B_toList]
  simp only [Option.bind_some]
  revert j
  generalize r.drop n = q
  intro j
  cases q with
  | nil => exact j
  | cons x t =>
    rw [if_neg (by simp), if_pos (by rw [B_size, List.length_cons]; omega), show bt (B (x :: t)) 0 = (x.toNat : Int) from by have := bt_at' (x :: t) (i := 0) (by simp); simpa using this]
    have e58 : ((x.toNat : Int) == 58) = ((x :: t).head? == some 58) := by
      have := c_eq x 58 (by omega)
      rw [Bool.eq_iff_iff, beq_iff_eq, beq_iff_eq, List.head?_cons, Option.some.injEq]
      exact iff_of_eq this
    rw [e58]
    exact j
theorem nmR (r : List UInt8) (hr : r.length ≤ 1048576) (sc : List UInt8) (wild : Bool) (k : Nat) (hk : 3 * r.length + 60 < k) :
    Ans (hostG sc wild true r) ((bastionref14_name.f k (B r)).bind fun t => bastionref14_hosted.j3 k (B r) t 5 (⟨#[]⟩ : ByteArray) (B sc) wild 0 false false (⟨#[]⟩ : ByteArray)) := by
  rw [nameR r hr k (by omega)]
  have j := j3R r hr (spanN [45, 95, 46] r) (spanN_le _ _) sc wild k hk
  unfold hostG hostC
  simp only [Option.bind_some, if_true]
  cases badName (r.take (spanN [45, 95, 46] r)) with
  | true =>
    obtain ⟨k, rfl⟩ : ∃ m, k = m + 1 := ⟨k - 1, by omega⟩
    simp only [if_true, bastionref14_hosted.j3]
    rw [if_pos (by omega)]
    exact ans_no rfl rfl
  | false => exact j
theorem j1R (r : List UInt8) (hr : r.length ≤ 1048576) (sc : List UInt8) (k : Nat) (hk : 3 * r.length + 70 < k) :
    Ans (hostG sc (hostB r).1 (hostB r).2.1 (hostB r).2.2) (bastionref14_hosted.j1 k (B r) 5 (⟨#[]⟩ : ByteArray) (B sc) false 0 false false (⟨#[]⟩ : ByteArray)) := by
  obtain ⟨k, rfl⟩ : ∃ m, k = m + 2 := ⟨k - 2, by omega⟩
  simp only [bastionref14_hosted.j1, bastionref14_hosted.j2]
  rw [B_toList]
  have z1 : ∀ (x : UInt8) (t : List UInt8), (0 : Int) < ((B (x :: t)).size : Int) := fun x t => by rw [B_size, List.length_cons]; omega
  have z2 : ∀ (x : UInt8) (t : List UInt8), (1 : Int) ≤ ((B (x :: t)).size : Int) := fun x t => by rw [B_size, List.length_cons]; omega
  have hx : ∀ (x : UInt8) (t : List UInt8), (B (x :: t)).extract 1 (B (x :: t)).size = B t := fun x t => by rw [B_extract_end]; rfl
  have b0 : ∀ (x : UInt8) (t : List UInt8), bt (B (x :: t)) 0 = (x.toNat : Int) := fun x t => by have := bt_at' (x :: t) (i := 0) (by simp); simpa using this
  cases r with
  | nil =>
    simp only [if_true, Bool.false_eq_true, if_false]
    exact nmR [] (by simp) sc false k (by simp only [List.length_nil] at hk ⊢; omega)
  | cons c t =>
    have hcn : ¬ (c :: t : List UInt8) = [] := by simp
    rw [if_neg hcn, if_pos (z1 c t), b0, hx]
    simp only [List.length_cons] at hr hk
    by_cases hc : c = 42
    · subst hc
      have : ((((42 : UInt8).toNat : Int)) == 42) = true := rfl
      simp only [this, if_true, if_pos (z2 42 t)]
      rw [B_toList]
      cases t with
      | nil =>
        simp only [if_true]
        exact j3R [] (by simp) 0 (Nat.le_refl _) sc true k (by simp only [List.length_nil] at hk ⊢; omega)
      | cons d u =>
        have hdn : ¬ (d :: u : List UInt8) = [] := by simp
        simp only [List.length_cons] at hr hk
        rw [if_neg hdn, if_pos (z1 d u), b0, hx, if_pos (z2 d u)]
        simp only [c46]
        by_cases hd : d = 46
        · subst hd
          simp only [if_true]
          exact nmR u (by omega) sc true k (by omega)
        · rw [if_neg hd]
          have e : hostB (42 :: d :: u) = (true, false, d :: u) := by
            show (if (42 : UInt8) = 42 then (if d = 46 then (true, true, u) else (true, false, d :: u)) else (false, true, 42 :: d :: u)) = _
            rw [if_pos rfl, if_neg hd]
          rw [e]
          exact j3R (d :: u) (by rw [List.length_cons]; omega) 0 (by omega) sc true k (by rw [List.length_cons]; omega)
    · have e1 : (((c.toNat : Int)) == 42) = false := by
        rw [Bool.eq_false_iff]
        intro h
        exact hc ((c42 c).mp (beq_iff_eq.1 h))
      have e : hostB (c :: t) = (false, true, c :: t) := by
        show (if c = 42 then _ else _) = _
        rw [if_neg hc]
      rw [e, e1]
      simp only [Bool.false_eq_true, if_false]
      exact nmR (c :: t) (by rw [List.length_cons]; omega) sc false k (by rw [List.length_cons]; omega)
theorem hostedR (l : List UInt8) (hl : l.length ≤ 1048576) (k : Nat) (hk : 3 * l.length + 90 < k) : Ans (hostF l) (bastionref14_hosted.f k (B l)) := by
  have hle := schN_le l
  have plain : ∀ k', 3 * l.length + 70 < k' → Ans (hostG [] (hostB l).1 (hostB l).2.1 (hostB l).2.2) (bastionref14_hosted.j1 k' (B l) 5 (⟨#[]⟩ : ByteArray) (⟨#[]⟩ : ByteArray) false 0 false false (⟨#[]⟩ : ByteArray)) := fun k' h => j1R l hl [] k' h
  obtain ⟨k, rfl⟩ : ∃ m, k = m + 1 := ⟨k - 1, by omega⟩
  unfold bastionref14_hosted.f hostF hostA
  rw [schemeR l hl _ (by omega)]
  simp only [Option.bind_some, bastionref14_hosted.j0, Bool.false_eq_true, if_false]
  generalize schN l = n at *
  have hP := plain k (by omega)
  by_cases h0 : 0 < n
  · have hw : wrap64 ((n : Int) + 3) = ((n + 3 : Nat) : Int) := by rw [w64 (by omega) (by omega)]; omega
    have p0 : (n : Int) > 0 := by omega
    have p1 : (0 : Int) ≤ (n : Int) := by omega
    have p2 : (n : Int) ≤ ((n + 3 : Nat) : Int) := by omega
    have p3 : (n : Int) ≤ ((B l).size : Int) := by rw [B_size]; omega
    have p4 : (0 : Int) ≤ ((n + 3 : Nat) : Int) := by omega
    rw [hw, Int.toNat_natCast, Int.toNat_natCast]
    clear hw
    simp only [if_pos p0, if_pos p1, if_pos p2, if_pos p3, if_pos p4]
    by_cases h3 : n + 3 ≤ l.length
    · have p5 : ((n + 3 : Nat) : Int) ≤ ((B l).size : Int) := by rw [B_size]; omega
      have p6 : ((B l).size : Int) ≥ ((n + 3 : Nat) : Int) := by rw [B_size]; omega
      have e : ((B l).extract n (n + 3)).toList = (l.drop n).take 3 := by rw [B_extract, B_toList, show n + 3 - n = 3 from by omega]
      have ep : ((l.drop n).take 3 == [58, 47, 47]) = ([58, 47, 47] : List UInt8).isPrefixOf (l.drop n) := by
        rw [Bool.eq_iff_iff, beq_iff_eq, List.isPrefixOf_iff_prefix, List.prefix_iff_eq_take]
        exact eq_comm
      simp only [if_pos p5, if_pos p6]
      rw [e, ep]
      cases hp : ([58, 47, 47] : List UInt8).isPrefixOf (l.drop n) with
      | true =>
        have hd : (l.drop (n + 3)).length ≤ l.length := by rw [List.length_drop]; omega
        have hc : 0 < n ∧ true = true := ⟨h0, rfl⟩
        have j := j1R (l.drop (n + 3)) (by omega) (low (l.take n)) k (by omega)
        rw [if_pos hc]
        simp only [if_true]
        rw [B_extract, List.drop_zero, Nat.sub_zero, lowerR _ (by rw [List.length_take]; omega) _ (by rw [List.length_take]; omega), B_extract_end]
        exact j
      | false =>
        have hc : ¬ (0 < n ∧ false = true) := by rintro ⟨_, h⟩; cases h
        rw [if_neg hc]
        exact hP
    · have hp : ¬ (0 < n ∧ ([58, 47, 47] : List UInt8).isPrefixOf (l.drop n) = true) := by
        rintro ⟨_, hp⟩
        rw [List.isPrefixOf_iff_prefix] at hp
        have := hp.length_le
        rw [List.length_drop] at this
        simp at this
        omega
      have p6 : ¬ ((B l).size : Int) ≥ ((n + 3 : Nat) : Int) := by rw [B_size]; omega
      rw [if_neg p6, if_neg hp]
      exact hP
  · have p0 : ¬ (n : Int) > 0 := by omega
    have hc : ¬ (0 < n ∧ ([58, 47, 47] : List UInt8).isPrefixOf (l.drop n) = true) := fun h => h0 h.1
    rw [if_neg p0, if_neg hc]
    exact hP
end Go.Proofs.YtnndgmbflkdhkaaGreatDoor.Q
