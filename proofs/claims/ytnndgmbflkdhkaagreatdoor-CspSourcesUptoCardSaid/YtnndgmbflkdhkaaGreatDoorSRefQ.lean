/- The document's answers on source expressions, plain: names of hosts; keywords, nonces, hashes. -/
import Derived.Test.YtnndgmbflkdhkaaGreatDoorSRefS
import Derived.Test.YtnndgmbflkdhkaaGreatDoorSHost
set_option linter.unusedSimpArgs false
set_option linter.unusedVariables false
namespace Go.Proofs.YtnndgmbflkdhkaaGreatDoor.Q
open Go.RowKit Go.Proofs.YtnndgmbflkdhkaaGreatDoorW.PrintWords Go.Proofs.YtnndgmbflkdhkaaGreatDoorW.PrintLast Go.Proofs.YtnndgmbflkdhkaaGreatDoorW.PrintMore Go.Proofs.YtnndgmbflkdhkaaGreatDoor.P1
def wd (c : UInt8) : Bool := isAl c || dig c || c == 45 || c == 95
/-- how many bytes of a name; none: a full stop too many -/
def nm : Bool → List UInt8 → Option Nat
  | _, [] => some 0
  | long, c :: t => if wd c then (nm true t).map (· + 1) else if c = 46 then (if long then (nm false t).map (· + 1) else none) else some 0
def bad2 : Bool → List UInt8 → Bool
  | _, [] => false
  | long, c :: t => if c = 46 then (if long then bad2 false t else true) else bad2 true t
theorem bad2_cons (long : Bool) (c : UInt8) (t : List UInt8) : bad2 long (c :: t) = if c = 46 then (if long then bad2 false t else true) else bad2 true t := rfl
theorem c45 (c : UInt8) : ((c.toNat : Int) = 45) = (c = 45) := c_eq c 45 (by omega)
theorem c46 (c : UInt8) : ((c.toNat : Int) = 46) = (c = 46) := c_eq c 46 (by omega)
theorem c95 (c : UInt8) : ((c.toNat : Int) = 95) = (c = 95) := c_eq c 95 (by omega)
theorem opt_two (b : Bool) (n : Nat) : Option.map (· + 1) (if b = true then none else some n) = if b = true then none else some (n + 1) := by cases b <;> rfl
theorem wd_q (c : UInt8) : inSpan [45, 95, 46] c = (wd c || c == 46) ∧ (wd c = true → c ≠ 46) := all_c (p := fun c => inSpan [45, 95, 46] c = (wd c || c == 46) ∧ (wd c = true → c ≠ 46)) (by decide +kernel) c
theorem nm_eq : ∀ (l : List UInt8) (long : Bool), nm long l = if bad2 long (l.takeWhile (inSpan [45, 95, 46])) then none else some (l.takeWhile (inSpan [45, 95, 46])).length
  | [], long => rfl
  | c :: t, long => by
    obtain ⟨h1, h2⟩ := wd_q c
    unfold nm
    rw [List.takeWhile_cons, h1]
    cases hw : wd c with
    | true =>
      have hc := h2 hw
      simp only [if_true, Bool.true_or]
      rw [nm_eq t true, bad2_cons, if_neg hc, List.length_cons]
      exact opt_two _ _
    | false =>
      simp only [Bool.false_eq_true, if_false, Bool.false_or]
      by_cases hc : c = 46
      · subst hc
        simp only [if_true, beq_self_eq_true]
        cases long with
        | true =>
          simp only [if_true]
          rw [nm_eq t false, bad2_cons, List.length_cons]
          simp only [if_true]
          exact opt_two _ _
        | false =>
          show none = if bad2 false (46 :: _) then none else _
          unfold bad2
          simp
      · rw [if_neg hc]
        have : (c == 46) = false := by simpa using hc
        rw [this]
        rfl
theorem index_m1 (p : List UInt8) : ∀ l : List UInt8, -1 ≤ Lib.index l p
  | [] => by unfold Lib.index; split <;> decide
  | c :: l => by
    have ih := index_m1 p l
    unfold Lib.index
    split
    · decide
    · split
      · decide
      · omega
theorem contains_cons (c : UInt8) (t p : List UInt8) : Lib.contains (c :: t) p = (p.isPrefixOf (c :: t) || Lib.contains t p) := by
  have ih := index_m1 p t
  unfold Lib.contains
  conv => lhs; unfold Lib.index
  cases h : p.isPrefixOf (c :: t) with
  | true => simp
  | false =>
    simp only [Bool.false_eq_true, if_false, Bool.false_or]
    split
    · rename_i h1
      have h1' : Lib.index t p = -1 := by simpa using h1
      rw [h1']
    · rename_i h1
      have h1' : Lib.index t p ≠ -1 := by simpa using h1
      rw [decide_eq_true (by omega), decide_eq_true (by omega)]
theorem bad2_eq : ∀ (n : List UInt8) (long : Bool), bad2 long n = ((!long && n.head? == some 46) || Lib.contains n [46, 46])
  | [], long => by cases long <;> rfl
  | c :: t, long => by
    unfold bad2
    rw [contains_cons]
    by_cases hc : c = 46
    · subst hc
      cases long with
      | true =>
        simp only [if_true, Bool.not_true, Bool.false_and, Bool.false_or]
        rw [bad2_eq t false]
        cases t with
        | nil => rfl
        | cons d u =>
          have : ([46, 46] : List UInt8).isPrefixOf (46 :: d :: u) = (d == 46) := by
            show ((46 : UInt8) == 46 && ((46 : UInt8) == d && true)) = (d == 46)
            rw [beq_self_eq_true, Bool.true_and, Bool.and_true, Bool.eq_iff_iff, beq_iff_eq, beq_iff_eq]
            exact eq_comm
          rw [this]
          rfl
      | false => simp
    · rw [if_neg hc, bad2_eq t true]
      have h1 : ([46, 46] : List UInt8).isPrefixOf (c :: t) = false := by
        have : ¬ (46 = c) := fun e => hc e.symm
        simp [List.isPrefixOf, this]
      rw [h1]
      simp [hc]
theorem nameR_l (l : List UInt8) (hl : l.length ≤ 1048576) : ∀ (n k i x : Nat), l.length - i = n → 2 * n + 2 < k → i ≤ l.length → x ≤ i →
    bastionref14_name.l0 k (B l) (i : Int) (x : Int) = (match nm (decide (0 < x)) (l.drop i) with | none => some (-1) | some m => if i + m = 0 then some (-1) else some ((i + m : Nat) : Int))
  | 0, k, i, x, hn, hk, hi, hx => by
    obtain ⟨k, rfl⟩ : ∃ m, k = m + 1 := ⟨k - 1, by omega⟩
    simp only [bastionref14_name.l0]
    rw [if_neg (by rw [B_size]; omega), List.drop_eq_nil_of_le (by omega)]
    show _ = if i + 0 = 0 then _ else _
    by_cases h0 : i = 0
    · rw [if_pos (by omega), if_pos (by omega)]
    · rw [if_neg (by omega), if_neg (by omega)]; rfl
  | n + 1, k, i, x, hn, hk, hi, hx => by
    obtain ⟨k, rfl⟩ : ∃ m, k = m + 2 := ⟨k - 2, by omega⟩
    have hlt : i < l.length := by omega
    have ihT := nameR_l l hl n k (i + 1) (x + 1) (by omega) (by omega) (by omega) (by omega)
    have ihF := nameR_l l hl n k (i + 1) 0 (by omega) (by omega) (by omega) (by omega)
    have hx1 : wrap64 ((x : Int) + 1) = ((x + 1 : Nat) : Int) := by rw [w64 (by omega) (by omega)]; omega
    have e45 := c45 l[i]
    have e95 : ((l[i].toNat : Int) == 95) = (l[i] == 95) := by
      rw [Bool.eq_iff_iff, beq_iff_eq, beq_iff_eq, c95]
    have e46 := c46 l[i]
    have step : bastionref14_name.l0 (k + 2) (B l) (i : Int) (x : Int) = bastionref14_name.j1 (k + 1) (B l) (i : Int) (x : Int) (l[i].toNat : Int) (wd l[i]) := by
      conv => lhs; simp only [bastionref14_name.l0]
      rw [if_pos (by rw [B_size]; omega), if_pos (by omega), bt_at' l hlt, letterR, digitR]
      simp only [Option.bind_some, e45, e95]
      unfold wd
      cases isAl l[i] <;> cases dig l[i] <;> simp
      by_cases h : l[i] = 45
      · simp [h]
      · have h' : (l[i] == 45) = false := by simpa using h
        simp [h, h']
    rw [step, List.drop_eq_getElem_cons hlt]
    simp only [bastionref14_name.j1, nm]
    cases hw : wd l[i] with
    | true =>
      simp only [if_true]
      rw [w64s hlt (by omega), hx1, ihT]
      have : decide (0 < x + 1) = true := by simp
      rw [this]
      cases nm true (l.drop (i + 1)) with
      | none => rfl
      | some m =>
        show (if i + 1 + m = 0 then some (-1) else some ((i + 1 + m : Nat) : Int)) = if i + (m + 1) = 0 then some (-1) else some ((i + (m + 1) : Nat) : Int)
        rw [if_neg (by omega), if_neg (by omega), show i + 1 + m = i + (m + 1) from by omega]
    | false =>
      simp only [Bool.false_eq_true, if_false, e46]
      by_cases hc : l[i] = 46
      · rw [if_pos hc, if_pos hc]
        by_cases h0 : 0 < x
        · rw [if_pos (by omega), w64s hlt (by omega)]
          have ihF' : bastionref14_name.l0 k (B l) ((i + 1 : Nat) : Int) 0 = _ := ihF
          have hd0 : decide (0 < 0) = false := rfl
          rw [ihF', decide_eq_true h0, hd0]
          simp only [if_true]
          cases nm false (l.drop (i + 1)) with
          | none => rfl
          | some m =>
            show (if i + 1 + m = 0 then some (-1) else some ((i + 1 + m : Nat) : Int)) = if i + (m + 1) = 0 then some (-1) else some ((i + (m + 1) : Nat) : Int)
            rw [if_neg (by omega), if_neg (by omega), show i + 1 + m = i + (m + 1) from by omega]
        · rw [if_neg (by omega), decide_eq_false h0]
          simp only [Bool.false_eq_true, if_false]
          by_cases hi0 : i = 0
          · rw [if_pos (by omega)]
          · rw [if_neg (by omega), if_pos (by rw [B_size]; omega), if_pos (by omega), bt_at' l hlt, if_pos ((c46 l[i]).mpr hc)]
      · rw [if_neg hc, if_neg hc]
        show _ = if i + 0 = 0 then _ else _
        by_cases hi0 : i = 0
        · rw [if_pos (by omega), if_pos (by omega)]
        · rw [if_neg (by omega), if_pos (by rw [B_size]; omega), if_pos (by omega), bt_at' l hlt, if_neg (fun h => hc ((c46 l[i]).mp h)), if_neg (by omega)]
          rfl
theorem nameR (l : List UInt8) (hl : l.length ≤ 1048576) (k : Nat) (hk : 2 * l.length + 2 < k) : bastionref14_name.f k (B l) = some (if badName (l.take (spanN [45, 95, 46] l)) then -1 else ((spanN [45, 95, 46] l : Nat) : Int)) := by
  have h := nameR_l l hl l.length k 0 0 (by omega) hk (by omega) (by omega)
  unfold bastionref14_name.f
  have htw : l.take (spanN [45, 95, 46] l) = l.takeWhile (inSpan [45, 95, 46]) := (List.prefix_iff_eq_take.1 (List.takeWhile_prefix _)).symm
  simp only [List.drop_zero, Nat.zero_add] at h
  rw [htw]
  have hd : decide (0 < 0) = false := rfl
  rw [hd, nm_eq, bad2_eq] at h
  have h' : bastionref14_name.l0 k (B l) 0 0 = _ := h
  rw [h']
  unfold badName spanN
  generalize l.takeWhile (inSpan [45, 95, 46]) = n
  simp only [Bool.not_false, Bool.true_and]
  cases n with
  | nil => simp [Lib.contains, Lib.index]
  | cons c t =>
    simp only [List.isEmpty_cons, Bool.false_or]
    cases ((c :: t).head? == some 46 || Lib.contains (c :: t) [46, 46]) <;> simp
theorem index_hit : ∀ (a b : List UInt8), 45 ∉ a → Lib.index (a ++ 45 :: b) [45] = a.length
  | [], b, _ => by simp [Lib.index, List.isPrefixOf]
  | c :: a, b, h => by
    have hc : ¬ (45 = c) := fun e => h (by simp [e])
    have ih := index_hit a b (fun e => h (by simp [e]))
    rw [List.cons_append]
    unfold Lib.index
    rw [ih]
    have : ([45] : List UInt8).isPrefixOf (c :: (a ++ 45 :: b)) = false := by simp [List.isPrefixOf, hc]
    rw [this]
    simp only [Bool.false_eq_true, if_false]
    rw [if_neg (by simp)]
    simp
theorem index_miss : ∀ (a : List UInt8), 45 ∉ a → Lib.index a [45] = -1
  | [], _ => by simp [Lib.index]
  | c :: a, h => by
    have hc : ¬ (45 = c) := fun e => h (by simp [e])
    have ih := index_miss a (fun e => h (by simp [e]))
    unfold Lib.index
    rw [ih]
    have : ([45] : List UInt8).isPrefixOf (c :: a) = false := by simp [List.isPrefixOf, hc]
    rw [this]
    simp
theorem first_45 : ∀ u : List UInt8, 45 ∈ u → ∃ a b, u = a ++ 45 :: b ∧ 45 ∉ a
  | [], h => by cases h
  | c :: u, h => by
    by_cases hc : c = 45
    · exact ⟨[], u, by rw [hc]; rfl, by simp⟩
    · obtain ⟨a, b, e, ha⟩ := first_45 u (by rcases List.mem_cons.1 h with h | h; · exact absurd h.symm hc
                                             · exact h)
      exact ⟨c :: a, b, by rw [e]; rfl, by simp only [List.mem_cons, not_or]; exact ⟨fun e => hc e.symm, ha⟩⟩
theorem head_eq : ∀ (h a b : List UInt8), 45 ∉ h → 45 ∉ a → ((a ++ 45 :: b).take (h.length + 1) = h ++ [45] ↔ a = h)
  | [], [], b, _, _ => by simp
  | [], c :: a, b, _, ha => by
    have : ¬ c = 45 := fun e => ha (by simp [e])
    simp [this]
  | d :: h, [], b, hh, _ => by
    have : ¬ 45 = d := fun e => hh (by simp [e])
    simp [this]
  | d :: h, c :: a, b, hh, ha => by
    have ih := head_eq h a b (fun e => hh (by simp [e])) (fun e => ha (by simp [e]))
    rw [List.cons_append, List.length_cons, List.take_succ_cons, List.cons_append, List.cons.injEq, List.cons.injEq, ih]
theorem lowC_45 (c : UInt8) (h : lowC c = 45) : c = 45 := by
  have := all_c (p := fun c => lowC c = 45 → c = 45) (by decide +kernel) c
  exact this h
/-- a text by its first hyphen -/
theorem split_45 (t : List UInt8) (h : 45 ∈ low t) : ∃ t1 t2, t = t1 ++ 45 :: t2 ∧ 45 ∉ low t1 := by
  obtain ⟨a, b, e, ha⟩ := first_45 (low t) h
  have hlen : a.length < t.length := by
    have := congrArg List.length e
    rw [low_length, List.length_append, List.length_cons] at this
    omega
  have h1 : low (t.take a.length) = a := by
    unfold low
    rw [List.map_take]
    show (low t).take a.length = a
    rw [e]; simp
  have h2 : t[a.length] = 45 := by
    apply lowC_45
    have : (low t)[a.length]? = some 45 := by rw [e]; simp
    unfold low at this
    rw [List.getElem?_map, List.getElem?_eq_getElem hlen] at this
    simpa using this
  refine ⟨t.take a.length, t.drop (a.length + 1), ?_, by rw [h1]; exact ha⟩
  conv => lhs; rw [← List.take_append_drop a.length t]
  rw [List.drop_eq_getElem_cons hlen, h2]
theorem low_app (a b : List UInt8) : low (a ++ b) = low a ++ low b := by simp [low]
theorem srcQ_hit (t1 t2 : List UInt8) (h : 45 ∉ low t1) : srcQ (t1 ++ 45 :: t2) = if keyL.contains (low (t1 ++ 45 :: t2)) then (1, low (t1 ++ 45 :: t2), [], true) else if codedN t2 then
    (if low t1 = [110, 111, 110, 99, 101] then (2, t2, [], true) else if low t1 = [115, 104, 97, 50, 53, 54] ∨ low t1 = [115, 104, 97, 51, 56, 52] ∨ low t1 = [115, 104, 97, 53, 49, 50] then (3, t2, low t1, true) else (0, [], [], false)) else (0, [], [], false) := by
  have e : low (t1 ++ 45 :: t2) = low t1 ++ 45 :: low t2 := by rw [low_app]; rfl
  have hc : (Lib.cut (low (t1 ++ 45 :: t2)) [45]).1 = low t1 := by
    unfold Lib.cut
    rw [e, index_hit _ _ h, if_pos (by omega)]
    simp
  have hd : (t1 ++ 45 :: t2).drop (low t1).length = 45 :: t2 := by rw [low_length]; simp
  have hp : preB (low t1 ++ [45]) (low t1 ++ 45 :: low t2) = true := by
    unfold preB
    rw [List.length_append, List.length_singleton, beq_iff_eq]
    rw [show low t1 ++ 45 :: low t2 = (low t1 ++ [45]) ++ low t2 from by simp, List.take_left' (by simp)]
  have hp2 : preB [45] (45 :: t2) = true := by simp [preB]
  unfold srcQ
  rw [hc, hd, hp2]
  simp only [if_true, List.drop_succ_cons, List.drop_zero]
  rw [e, hp, Bool.true_and]
theorem srcQ_miss (t : List UInt8) (h : 45 ∉ low t) : srcQ t = if keyL.contains (low t) then (1, low t, [], true) else (0, [], [], false) := by
  have hc : (Lib.cut (low t) [45]).1 = low t := by
    unfold Lib.cut
    rw [index_miss _ h, if_neg (by omega)]
  have hp : preB (low t ++ [45]) (low t) = false := by
    rw [Bool.eq_false_iff]
    intro hp
    have := preB_len hp
    rw [List.length_append, List.length_singleton] at this
    omega
  unfold srcQ
  rw [hc, hp]
  simp
/-- what stands in the answer -/
def qT (x : Int × List UInt8 × List UInt8 × Bool) : Int × ByteArray × ByteArray × Bool × Int × Bool × Bool × ByteArray × Bool := (x.1, B x.2.1, B x.2.2.1, false, 0, false, false, (⟨#[]⟩ : ByteArray), x.2.2.2)
theorem codedN_nil : codedN [] = false := rfl
theorem take_low (t : List UInt8) (n : Nat) : (low t).take n = low (t.take n) := by unfold low; rw [List.map_take]
/-- the beginnings, by the first hyphen -/
theorem heads (t1 t2 : List UInt8) (h : 45 ∉ low t1) : ((low (t1 ++ 45 :: t2)).take 6 = [110, 111, 110, 99, 101, 45] ↔ low t1 = [110, 111, 110, 99, 101]) ∧ ((low (t1 ++ 45 :: t2)).take 7 = [115, 104, 97, 50, 53, 54, 45] ↔ low t1 = [115, 104, 97, 50, 53, 54]) ∧
    ((low (t1 ++ 45 :: t2)).take 7 = [115, 104, 97, 51, 56, 52, 45] ↔ low t1 = [115, 104, 97, 51, 56, 52]) ∧ ((low (t1 ++ 45 :: t2)).take 7 = [115, 104, 97, 53, 49, 50, 45] ↔ low t1 = [115, 104, 97, 53, 49, 50]) := by
  have e : low (t1 ++ 45 :: t2) = low t1 ++ 45 :: low t2 := by rw [low_app]; rfl
  rw [e]
  exact ⟨head_eq [110, 111, 110, 99, 101] _ _ (by decide) h, head_eq [115, 104, 97, 50, 53, 54] _ _ (by decide) h, head_eq [115, 104, 97, 51, 56, 52] _ _ (by decide) h, head_eq [115, 104, 97, 53, 49, 50] _ _ (by decide) h⟩
theorem quoted_j0R (t : List UInt8) (ht : t.length ≤ 1048576) (k : Nat) (hk : t.length + 2 < k) : bastionref14_quoted.j0 (k + 1) (B t) (B (low t)) false =
    some (qT (if 7 < t.length ∧ ((low t).take 7 = [115, 104, 97, 50, 53, 54, 45] ∨ (low t).take 7 = [115, 104, 97, 51, 56, 52, 45] ∨ (low t).take 7 = [115, 104, 97, 53, 49, 50, 45]) ∧ codedN (t.drop 7) = true then (3, t.drop 7, (low t).take 6, true) else (0, [], [], false))) := by
  simp only [bastionref14_quoted.j0]
  rw [if_neg (by simp), B_size]
  by_cases h7 : 7 < t.length
  · rw [if_pos (by omega), if_pos (by omega), if_pos (by rw [B_size, low_length]; omega)]
    have hx : (B (low t)).extract 0 7 = B ((low t).take 7) := by rw [B_extract]; simp
    have hx6 : (B (low t)).extract 0 6 = B ((low t).take 6) := by rw [B_extract]; simp
    have hd : (B t).extract 7 t.length = B (t.drop 7) := by have := B_extract_end t 7; rwa [B_size] at this
    have hc := codedR (t.drop 7) (by rw [List.length_drop]; omega) k (by rw [List.length_drop]; omega)
    rw [hx, hx6, hd, hc, B_toList]
    simp only [Option.bind_some, B_size, low_length]
    have p7 : (7 : Int) ≤ (t.length : Int) := by omega
    have p6 : (6 : Int) ≤ (t.length : Int) := by omega
    simp only [if_pos p7, if_pos p6]
    cases hcd : codedN (t.drop 7) with
    | true =>
      by_cases a1 : (low t).take 7 = [115, 104, 97, 50, 53, 54, 45]
      · rw [if_pos a1, if_pos (show 7 < t.length ∧ ((low t).take 7 = [115, 104, 97, 50, 53, 54, 45] ∨ (low t).take 7 = [115, 104, 97, 51, 56, 52, 45] ∨ (low t).take 7 = [115, 104, 97, 53, 49, 50, 45]) ∧ true = true from ⟨h7, .inl a1, rfl⟩)]; simp [qT]
      · rw [if_neg a1]
        by_cases a2 : (low t).take 7 = [115, 104, 97, 51, 56, 52, 45]
        · rw [if_pos a2, if_pos (show 7 < t.length ∧ ((low t).take 7 = [115, 104, 97, 50, 53, 54, 45] ∨ (low t).take 7 = [115, 104, 97, 51, 56, 52, 45] ∨ (low t).take 7 = [115, 104, 97, 53, 49, 50, 45]) ∧ true = true from ⟨h7, .inr (.inl a2), rfl⟩)]; simp [qT]
        · rw [if_neg a2]
          by_cases a3 : (low t).take 7 = [115, 104, 97, 53, 49, 50, 45]
          · rw [if_pos a3, if_pos (show 7 < t.length ∧ ((low t).take 7 = [115, 104, 97, 50, 53, 54, 45] ∨ (low t).take 7 = [115, 104, 97, 51, 56, 52, 45] ∨ (low t).take 7 = [115, 104, 97, 53, 49, 50, 45]) ∧ true = true from ⟨h7, .inr (.inr a3), rfl⟩)]; simp [qT]
          · have no : ¬ (7 < t.length ∧ ((low t).take 7 = [115, 104, 97, 50, 53, 54, 45] ∨ (low t).take 7 = [115, 104, 97, 51, 56, 52, 45] ∨ (low t).take 7 = [115, 104, 97, 53, 49, 50, 45]) ∧ true = true) := by
              rintro ⟨_, h | h | h, _⟩
              · exact a1 h
              · exact a2 h
              · exact a3 h
            rw [if_neg a3, if_neg no]; rfl
    | false =>
      have no : ¬ (7 < t.length ∧ ((low t).take 7 = [115, 104, 97, 50, 53, 54, 45] ∨ (low t).take 7 = [115, 104, 97, 51, 56, 52, 45] ∨ (low t).take 7 = [115, 104, 97, 53, 49, 50, 45]) ∧ false = true) := by
        rintro ⟨_, _, h⟩; cases h
      rw [if_neg no]
      simp only [Bool.false_eq_true, if_false]
      split
      · rfl
      · split
        · rfl
        · split <;> rfl
  · rw [if_neg (by omega), if_neg (by rintro ⟨h, _⟩; exact h7 h)]
    rfl
theorem quotedR (l : List UInt8) (hl : l.length ≤ 1048576) (k : Nat) (hk : l.length + 100 < k) : bastionref14_quoted.f (k + 1) (B l) = some (qT (quoF l)) := by
  unfold bastionref14_quoted.f quoF
  rw [markedR l hl]
  by_cases hm : (preB [39] l && sufB [39] (l.drop 1)) = true
  · rw [if_pos hm, if_pos hm]
    generalize ht : (l.drop 1).take ((l.drop 1).length - 1) = t
    have htl : t.length ≤ l.length := by rw [← ht]; simp; omega
    simp only [Option.bind_some, if_true]
    rw [lowerR t (by omega) _ (by omega)]
    simp only [Option.bind_some]
    rw [keyR (low t) _ (by omega)]
    simp only [Option.bind_some]
    have hj := quoted_j0R t (by omega) k (by omega)
    by_cases hmem : 45 ∈ low t
    · obtain ⟨t1, t2, rfl, h1⟩ := split_45 t hmem
      obtain ⟨g1, g2, g3, g4⟩ := heads t1 t2 h1
      rw [srcQ_hit t1 t2 h1]
      cases hk' : keyL.contains (low (t1 ++ 45 :: t2)) with
      | true => rfl
      | false =>
        simp only [Bool.false_eq_true, if_false]
        simp only [g2, g3, g4] at hj
        have hj' : bastionref14_quoted.j0 (k + 1) (B (t1 ++ 45 :: t2)) (B (low (t1 ++ 45 :: t2))) false = some (qT (if codedN t2 = true ∧ (low t1 = [115, 104, 97, 50, 53, 54] ∨ low t1 = [115, 104, 97, 51, 56, 52] ∨ low t1 = [115, 104, 97, 53, 49, 50]) then (3, t2, low t1, true) else (0, [], [], false))) := by
          rw [hj]
          by_cases hs : low t1 = [115, 104, 97, 50, 53, 54] ∨ low t1 = [115, 104, 97, 51, 56, 52] ∨ low t1 = [115, 104, 97, 53, 49, 50]
          · have hl6 : t1.length = 6 := by
              rw [← low_length t1]
              rcases hs with h | h | h <;> rw [h] <;> rfl
            have hd7 : (t1 ++ 45 :: t2).drop 7 = t2 := by rw [show 7 = t1.length + 1 from by omega, List.drop_append]; simp
            have ht6 : (low (t1 ++ 45 :: t2)).take 6 = low t1 := by rw [take_low, show 6 = t1.length from by omega]; simp
            rw [hd7, ht6]
            cases hcd : codedN t2 with
            | false => rw [if_neg (by rintro ⟨_, _, h⟩; cases h), if_neg (by rintro ⟨h, _⟩; cases h)]
            | true =>
              have hne : 0 < t2.length := by
                cases t2 with
                | nil => rw [codedN_nil] at hcd; cases hcd
                | cons x y => simp
              rw [if_pos ⟨by simp; omega, hs, rfl⟩, if_pos ⟨rfl, hs⟩]
          · rw [if_neg (by rintro ⟨_, h, _⟩; exact hs h), if_neg (by rintro ⟨_, h⟩; exact hs h)]
        rw [B_size]
        have hxe : (B (low (t1 ++ 45 :: t2))).extract 0 6 = B ((low (t1 ++ 45 :: t2)).take 6) := by rw [B_extract]; simp
        rw [hxe, B_toList, hj']
        by_cases h6 : ((t1 ++ 45 :: t2).length : Int) > 6
        · rw [if_pos h6, if_pos (by omega), if_pos (by rw [B_size, low_length]; omega)]
          by_cases hn : low t1 = [110, 111, 110, 99, 101]
          · have hl5 : t1.length = 5 := by rw [← low_length t1, hn]; rfl
            have hd6 : (B (t1 ++ 45 :: t2)).extract 6 (t1 ++ 45 :: t2).length = B t2 := by
              have := B_extract_end (t1 ++ 45 :: t2) 6
              rw [B_size] at this
              rw [this, show 6 = t1.length + 1 from by omega, List.drop_append]; simp [List.drop_eq_nil_of_le]
            rw [if_pos (g1.mpr hn), if_pos (by omega), hd6, codedR t2 (by simp at htl; omega) _ (by simp at htl; omega)]
            simp only [Option.bind_some]
            cases hcd : codedN t2 with
            | true =>
              simp only [bastionref14_quoted.j0, if_true]
              rw [if_pos (by rw [B_size]; omega), B_size, hd6, if_pos hn]
              rfl
            | false =>
              rw [hj', if_neg (by rintro ⟨h, _⟩; rw [hcd] at h; cases h)]
              rfl
          · rw [if_neg (fun h => hn (g1.mp h)), if_neg hn]
            congr 2
            cases codedN t2 <;> simp
        · rw [if_neg h6]
          have hn : ¬ (codedN t2 = true ∧ low t1 = [110, 111, 110, 99, 101]) := by
            rintro ⟨hc, hn⟩
            have hl5 : t1.length = 5 := by rw [← low_length t1, hn]; rfl
            cases t2 with
            | nil => rw [codedN_nil] at hc; cases hc
            | cons x y => apply h6; simp; omega
          congr 2
          cases hcd : codedN t2 with
          | false => simp
          | true =>
            have : ¬ low t1 = [110, 111, 110, 99, 101] := fun h => hn ⟨hcd, h⟩
            simp [this]
    · rw [srcQ_miss t hmem]
      cases hk' : keyL.contains (low t) with
      | true => rfl
      | false =>
        simp only [Bool.false_eq_true, if_false]
        have no : ∀ (n : Nat) (p : List UInt8), 45 ∈ p → (low t).take n ≠ p := fun n p hp e => hmem (List.mem_of_mem_take (by rw [e]; exact hp))
        have hj' : bastionref14_quoted.j0 (k + 1) (B t) (B (low t)) false = some (qT (0, [], [], false)) := by
          rw [hj, if_neg (by rintro ⟨_, h | h | h, _⟩ <;> exact no 7 _ (by decide) h)]
        have hxe : (B (low t)).extract 0 6 = B ((low t).take 6) := by rw [B_extract]; simp
        rw [B_size, hxe, B_toList, hj']
        split
        · rename_i h6
          rw [if_pos (by omega), if_pos (by rw [B_size, low_length]; omega), if_neg (no 6 _ (by decide))]
        · rfl
  · rw [if_neg hm, if_neg hm]
    rfl
end Go.Proofs.YtnndgmbflkdhkaaGreatDoor.Q
