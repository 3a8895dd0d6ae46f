/- Addresses of eight pieces, plain: what is written is read as what it was; what is read is eight small numbers. -/
import Derived.Test.YtkabhnbjjnjdhaaDoorSAdL
set_option linter.unusedSimpArgs false
set_option linter.unusedVariables false
namespace Go.Proofs.YtkabhnbjjnjdhaaDoor.Ad
open Go
/-- every colon is followed by another byte, none by a colon -/
def good : List UInt8 → Bool
  | [] => true
  | b :: r => (b != 58 || (match r with | [] => false | c :: _ => c != 58)) && good r
theorem index_cons (b : UInt8) (l sub : List UInt8) : Lib.index (b :: l) sub = if sub.isPrefixOf (b :: l) then 0 else if Lib.index l sub == -1 then -1 else Lib.index l sub + 1 := by rw [Lib.index]
theorem good_cons {b : UInt8} {r : List UInt8} (h : good (b :: r) = true) : good r = true ∧ (b ≠ 58 ∨ ∃ c q, r = c :: q ∧ c ≠ 58) := by
  unfold good at h
  rw [Bool.and_eq_true, Bool.or_eq_true] at h
  refine ⟨h.2, ?_⟩
  rcases h.1 with h1 | h1
  · exact .inl (by simpa using h1)
  · cases r with
    | nil => cases h1
    | cons c q => exact .inr ⟨c, q, rfl, by simpa using h1⟩
theorem pre_no {b : UInt8} {r B : List UInt8} (h : b ≠ 58 ∨ ∃ c q, r = c :: q ∧ c ≠ 58) : ([58, 58] : List UInt8).isPrefixOf (b :: (r ++ B)) = false := by
  rcases h with h | ⟨c, q, rfl, h⟩
  · simp [List.isPrefixOf, Ne.symm h]
  · simp [List.isPrefixOf, Ne.symm h]
theorem index_at : ∀ (A B : List UInt8), good A = true → Lib.index (A ++ 58 :: 58 :: B) [58, 58] = (A.length : Int)
  | [], B, _ => by
    show Lib.index (58 :: 58 :: B) [58, 58] = 0
    rw [index_cons, if_pos (by simp [List.isPrefixOf])]
  | b :: r, B, h => by
    obtain ⟨h1, h2⟩ := good_cons h
    show Lib.index (b :: (r ++ 58 :: 58 :: B)) [58, 58] = _
    rw [index_cons, pre_no h2, index_at r B h1, if_neg (by decide), if_neg (by rw [beq_iff_eq]; omega)]
    rw [List.length_cons]; omega
theorem index_none' : ∀ (A : List UInt8), good A = true → Lib.index A [58, 58] = -1
  | [], _ => by rw [Lib.index]; decide
  | b :: r, h => by
    obtain ⟨h1, h2⟩ := good_cons h
    have := pre_no (B := []) h2
    rw [List.append_nil] at this
    rw [index_cons, this, index_none' r h1, if_neg (by decide), if_pos (by decide)]
theorem cut_at {A B : List UInt8} (h : good A = true) : Lib.cut (A ++ 58 :: 58 :: B) [58, 58] = (A, B, true) := by
  unfold Lib.cut
  rw [index_at A B h, if_pos (by omega), Int.toNat_natCast]
  simp
theorem cut_no {A : List UInt8} (h : good A = true) : Lib.cut A [58, 58] = (A, [], false) := by
  unfold Lib.cut
  rw [index_none' A h, if_neg (by decide)]
theorem good_free : ∀ {x : List UInt8}, 58 ∉ x → good x = true
  | [], _ => rfl
  | b :: r, h => by
    have hb : b ≠ 58 := fun e => h (by rw [e]; exact List.mem_cons_self)
    have hr := good_free (x := r) (fun h' => h (List.mem_cons_of_mem _ h'))
    unfold good
    rw [hr]
    simp [hb]
theorem good_app : ∀ {x y : List UInt8}, 58 ∉ x → (∃ c q, y = c :: q ∧ c ≠ 58) → good y = true → good (x ++ [58] ++ y) = true
  | [], y, _, h1, hy => by
    obtain ⟨c, q, rfl, hc⟩ := h1
    show good (58 :: c :: q) = true
    unfold good
    rw [hy]
    simp [hc]
  | b :: r, y, h, hy, hg => by
    have hb : b ≠ 58 := fun e => h (by rw [e]; exact List.mem_cons_self)
    have ih := good_app (x := r) (y := y) (fun h' => h (List.mem_cons_of_mem _ h')) hy hg
    show good (b :: (r ++ [58] ++ y)) = true
    unfold good
    rw [ih]
    simp [hb]
theorem good_join : ∀ (xs : List (List UInt8)), (∀ x ∈ xs, 58 ∉ x ∧ x ≠ []) → good (Lib.join xs [58]) = true
  | [], _ => rfl
  | [x], h => by rw [Lib.join_one]; exact good_free (h x List.mem_cons_self).1
  | x :: y :: r, h => by
    rw [join_two]
    refine good_app (h x List.mem_cons_self).1 ?_ (good_join (y :: r) (fun z hz => h z (List.mem_cons_of_mem _ hz)))
    have hy := h y (List.mem_cons_of_mem _ List.mem_cons_self)
    rw [Lib.join_cons]
    obtain ⟨c, q, rfl⟩ := List.exists_cons_of_ne_nil hy.2
    exact ⟨c, _, rfl, fun e => hy.1 (by rw [e]; exact List.mem_cons_self)⟩
theorem hexD_all : ∀ k : Fin 16, dgN (UInt8.ofNat (hexD k.val)) = k.val ∧ ((48 ≤ hexD k.val ∧ hexD k.val ≤ 57) ∨ (97 ≤ hexD k.val ∧ hexD k.val ≤ 102)) := by decide +kernel
theorem hexD_of {k : Nat} (h : k < 16) : dgN (UInt8.ofNat (hexD k)) = k ∧ ((48 ≤ hexD k ∧ hexD k ≤ 57) ∨ (97 ≤ hexD k ∧ hexD k ≤ 102)) := hexD_all ⟨k, h⟩
def okC (c : UInt8) : Prop := (48 ≤ c.toNat ∧ c.toNat ≤ 57) ∨ (97 ≤ c.toNat ∧ c.toNat ≤ 102)
theorem okC_of {k : Nat} (h : k < 16) : okC (UInt8.ofNat (hexD k)) := by
  have := (hexD_of h).2
  unfold okC
  rw [UInt8.toNat_ofNat_of_lt' (by show _ < 256; omega)]
  exact this
theorem hexU_ok {n : Nat} {c : UInt8} (h : c ∈ hexU n) : okC c := by
  unfold hexU hexS at h
  obtain ⟨q, _, rfl⟩ := List.mem_map.1 h
  exact okC_of (Nat.mod_lt _ (by decide))
theorem okC_no {c : UInt8} (h : okC c) : c ≠ 58 ∧ c ≠ 46 := by
  unfold okC at h
  constructor
  · rintro rfl; revert h; decide
  · rintro rfl; revert h; decide
theorem hexU_no (n : Nat) : 58 ∉ hexU n ∧ 46 ∉ hexU n := ⟨fun h => (okC_no (hexU_ok h)).1 rfl, fun h => (okC_no (hexU_ok h)).2 rfl⟩
theorem hexU_len (n : Nat) : 0 < (hexU n).length ∧ (hexU n).length ≤ 4 := by
  unfold hexU hexS hexJ
  rw [List.length_map, List.length_range]
  split
  · omega
  · split
    · omega
    · split <;> omega
theorem val_one (c : UInt8) (acc : Nat) (r : List UInt8) : valF 16 acc (c :: r) = valF 16 (acc * 16 + dgN c) r := rfl
theorem hexU_val {n : Nat} (h : n < 65536) : val 16 (hexU n) = n := by
  have hd : ∀ k, dgN (UInt8.ofNat (hexD (k % 16))) = k % 16 := fun k => (hexD_of (Nat.mod_lt _ (by decide))).1
  unfold hexU hexJ
  by_cases h1 : n < 16
  · rw [if_pos h1]
    show valF 16 0 [UInt8.ofNat (hexD (n / 1 % 16))] = n
    rw [val_one, hd]
    show 0 * 16 + n / 1 % 16 = n
    omega
  · rw [if_neg h1]
    by_cases h2 : n < 256
    · rw [if_pos h2]
      show valF 16 0 [UInt8.ofNat (hexD (n / 16 % 16)), UInt8.ofNat (hexD (n / 1 % 16))] = n
      rw [val_one, val_one, hd, hd]
      show (0 * 16 + n / 16 % 16) * 16 + n / 1 % 16 = n
      omega
    · rw [if_neg h2]
      by_cases h3 : n < 4096
      · rw [if_pos h3]
        show valF 16 0 [UInt8.ofNat (hexD (n / 256 % 16)), UInt8.ofNat (hexD (n / 16 % 16)), UInt8.ofNat (hexD (n / 1 % 16))] = n
        rw [val_one, val_one, val_one, hd, hd, hd]
        show ((0 * 16 + n / 256 % 16) * 16 + n / 16 % 16) * 16 + n / 1 % 16 = n
        omega
      · rw [if_neg h3]
        show valF 16 0 [UInt8.ofNat (hexD (n / 4096 % 16)), UInt8.ofNat (hexD (n / 256 % 16)), UInt8.ofNat (hexD (n / 16 % 16)), UInt8.ofNat (hexD (n / 1 % 16))] = n
        rw [val_one, val_one, val_one, val_one, hd, hd, hd, hd]
        show (((0 * 16 + n / 4096 % 16) * 16 + n / 256 % 16) * 16 + n / 16 % 16) * 16 + n / 1 % 16 = n
        omega
theorem hexU_all (n : Nat) : allD 16 (hexU n) = true := by
  unfold allD
  rw [List.all_eq_true]
  intro c hc
  unfold hexU hexS at hc
  obtain ⟨q, _, rfl⟩ := List.mem_map.1 hc
  rw [(hexD_of (Nat.mod_lt _ (by decide))).1]
  exact decide_eq_true (Nat.mod_lt _ (by decide))
theorem piece_hex {n : Nat} (h : n < 65536) : pieceL (hexU n) = some n := by
  have hl := hexU_len n
  unfold pieceL
  rw [if_pos ⟨fun e => by rw [e] at hl; exact absurd hl.1 (by simp), hl.2, hexU_all n⟩, hexU_val h]
theorem dot_hex (n : Nat) : dotL (hexU n) = none := by
  unfold dotL
  rw [parts_free (hexU_no n).2]
  exact dotM_len (by simp)
theorem pcsF_hex (e : Bool) : ∀ xs : List Nat, (∀ x ∈ xs, x < 65536) → pcsF e (xs.map hexU) = some xs
  | [], _ => rfl
  | x :: r, h => by
    have ih := pcsF_hex e r (fun z hz => h z (List.mem_cons_of_mem _ hz))
    rw [List.map_cons]
    unfold pcsF
    have : (if e = true ∧ (r.map hexU).isEmpty = true then dotL (hexU x) else none) = none := by
      split
      · exact dot_hex x
      · rfl
    rw [this, piece_hex (h x List.mem_cons_self), ih]
theorem hexJoin_ne {xs : List Nat} (h : xs ≠ []) : hexJoin xs ≠ [] := by
  cases xs with
  | nil => exact absurd rfl h
  | cons x r =>
    unfold hexJoin
    rw [List.map_cons, Lib.join_cons]
    intro e
    have := congrArg List.length e
    have hl := hexU_len x
    rw [List.length_append, List.length_nil] at this
    omega
theorem pcsL_hex (e : Bool) {xs : List Nat} (h : ∀ x ∈ xs, x < 65536) : pcsL e (hexJoin xs) = some xs := by
  cases hx : xs with
  | nil => exact if_pos rfl
  | cons x r =>
    rw [← hx]
    have hne : xs ≠ [] := by rw [hx]; simp
    unfold pcsL
    rw [if_neg (hexJoin_ne hne)]
    unfold hexJoin
    rw [parts_join (by rw [hx]; simp) (fun z hz => by obtain ⟨n, _, rfl⟩ := List.mem_map.1 hz; exact (hexU_no n).1)]
    exact pcsF_hex e xs h
theorem hexJoin_good (xs : List Nat) : good (hexJoin xs) = true := good_join _ fun z hz => by
  obtain ⟨n, _, rfl⟩ := List.mem_map.1 hz
  have := hexU_len n
  exact ⟨(hexU_no n).1, fun e => by rw [e] at this; exact absurd this.1 (by simp)⟩
theorem gap_run : ∀ b0 b1 b2 b3 b4 b5 b6 b7 : Bool, (gapB [b0, b1, b2, b3, b4, b5, b6, b7]).2 = 0 ∨ ((gapB [b0, b1, b2, b3, b4, b5, b6, b7]).1 + 2 ≤ (gapB [b0, b1, b2, b3, b4, b5, b6, b7]).2 ∧ (gapB [b0, b1, b2, b3, b4, b5, b6, b7]).2 ≤ 8 ∧ (([b0, b1, b2, b3, b4, b5, b6, b7].drop (gapB [b0, b1, b2, b3, b4, b5, b6, b7]).1).take ((gapB [b0, b1, b2, b3, b4, b5, b6, b7]).2 - (gapB [b0, b1, b2, b3, b4, b5, b6, b7]).1)).all id = true) := by decide +kernel
theorem gap_of (bs : List Bool) (h : bs.length = 8) : (gapB bs).2 = 0 ∨ ((gapB bs).1 + 2 ≤ (gapB bs).2 ∧ (gapB bs).2 ≤ 8 ∧ ((bs.drop (gapB bs).1).take ((gapB bs).2 - (gapB bs).1)).all id = true) := by
  match bs, h with
  | [b0, b1, b2, b3, b4, b5, b6, b7], _ => exact gap_run b0 b1 b2 b3 b4 b5 b6 b7
theorem zero_run : ∀ (l : List Nat), (isZ l).all id = true → l = List.replicate l.length 0
  | [], _ => rfl
  | x :: r, h => by
    unfold isZ at h
    rw [List.map_cons, List.all_cons, Bool.and_eq_true] at h
    have hx : x = 0 := by simpa using h.1
    rw [List.length_cons, List.replicate_succ, hx]
    congr 1
    exact zero_run r h.2
theorem v6_back {a : List Nat} (hl : a.length = 8) (ha : ∀ x ∈ a, x < 65536) : v6L (txt6 a) = some a := by
  unfold txt6
  by_cases hz : (isZ a).all id = true
  · rw [if_pos hz]
    have hr := zero_run a hz
    rw [hl] at hr
    have hc : Lib.cut [58, 58] [58, 58] = ([], [], true) := cut_at (A := []) (B := []) rfl
    unfold v6L
    rw [hc, hr]
    rfl
  · rw [if_neg hz]
    have hbl : (isZ a).length = 8 := by unfold isZ; rw [List.length_map]; exact hl
    rcases gap_of (isZ a) hbl with h0 | ⟨h1, h2, h3⟩
    · rw [if_pos h0]
      unfold v6L
      rw [cut_no (hexJoin_good a), if_neg (by simp), pcsL_hex true ha]
      show (if a.length = 8 then some a else none) = _
      rw [if_pos hl]
    · rw [if_neg (by omega)]
      generalize (gapB (isZ a)).1 = f at *
      generalize (gapB (isZ a)).2 = t at *
      have hcut : Lib.cut (hexJoin (a.take f) ++ [58, 58] ++ hexJoin (a.drop t)) [58, 58] = (hexJoin (a.take f), hexJoin (a.drop t), true) := by
        rw [List.append_assoc]
        exact cut_at (hexJoin_good _)
      unfold v6L
      rw [hcut, if_pos rfl, pcsL_hex false (fun x hx => ha x (List.mem_of_mem_take hx)), pcsL_hex true (fun x hx => ha x (List.mem_of_mem_drop hx))]
      show (if (a.take f).length + (a.drop t).length ≤ 7 then some (a.take f ++ List.replicate (8 - (a.take f).length - (a.drop t).length) 0 ++ a.drop t) else none) = _
      have l1 : (a.take f).length = f := by rw [List.length_take]; omega
      have l2 : (a.drop t).length = 8 - t := by rw [List.length_drop]; omega
      rw [l1, l2, if_pos (by omega)]
      congr 1
      have hmid : (a.drop f).take (t - f) = List.replicate (t - f) 0 := by
        have := zero_run ((a.drop f).take (t - f)) (by
          unfold isZ at h3 ⊢
          rw [List.map_take, List.map_drop]
          exact h3)
        rw [this, List.length_take, List.length_drop]
        congr 1
        omega
      rw [show 8 - f - (8 - t) = t - f from by omega, ← hmid]
      have e1 : a.take f ++ (a.drop f).take (t - f) = a.take t := by
        rw [← List.take_add]
        congr 1
        omega
      rw [e1, List.take_append_drop]
theorem join_len (sep : List UInt8) (hs : sep.length ≤ 1) : ∀ r : List (List UInt8), (∀ x ∈ r, x.length ≤ 4) → (Lib.joinTail sep r).length ≤ 5 * r.length := by
  intro r
  unfold Lib.joinTail
  induction r with
  | nil => intro _; simp
  | cons y q ih =>
    intro hq
    have := ih (fun z hz => hq z (List.mem_cons_of_mem _ hz))
    have hy := hq y List.mem_cons_self
    rw [List.map_cons, List.flatten_cons, List.length_append, List.length_append, List.length_cons]
    omega
theorem hexJoin_len (xs : List Nat) : (hexJoin xs).length ≤ 5 * xs.length - 1 := by
  cases xs with
  | nil => simp [hexJoin, Lib.join_nil]
  | cons x r =>
    unfold hexJoin
    rw [List.map_cons, Lib.join_cons, List.length_append]
    have h1 := (hexU_len x).2
    have h2 := join_len [58] (by simp) (r.map hexU) (fun z hz => by obtain ⟨n, _, rfl⟩ := List.mem_map.1 hz; exact (hexU_len n).2)
    rw [List.length_map] at h2
    rw [List.length_cons]
    omega
theorem txt6_len {a : List Nat} (hl : a.length = 8) : (txt6 a).length ≤ 39 := by
  unfold txt6
  split
  · simp
  · have hbl : (isZ a).length = 8 := by unfold isZ; rw [List.length_map]; exact hl
    split
    · have := hexJoin_len a
      omega
    · rename_i h0
      rcases gap_of (isZ a) hbl with h | ⟨h1, h2, _⟩
      · exact absurd h h0
      · have a1 := hexJoin_len (a.take (gapB (isZ a)).1)
        have a2 := hexJoin_len (a.drop (gapB (isZ a)).2)
        rw [List.length_take] at a1
        rw [List.length_drop] at a2
        simp only [List.length_append, List.length_cons, List.length_nil]
        omega
theorem join_mem {c : UInt8} : ∀ (xs : List (List UInt8)), c ∈ Lib.join xs [58] → c = 58 ∨ ∃ x ∈ xs, c ∈ x
  | [], h => by rw [Lib.join_nil] at h; cases h
  | [x], h => by rw [Lib.join_one] at h; exact .inr ⟨x, List.mem_cons_self, h⟩
  | x :: y :: r, h => by
    rw [join_two] at h
    rcases List.mem_append.1 h with h | h
    · rcases List.mem_append.1 h with h | h
      · exact .inr ⟨x, List.mem_cons_self, h⟩
      · exact .inl (List.mem_singleton.1 h)
    · rcases join_mem (y :: r) h with h | ⟨z, hz, h⟩
      · exact .inl h
      · exact .inr ⟨z, List.mem_cons_of_mem _ hz, h⟩
theorem hexJoin_mem {c : UInt8} {xs : List Nat} (h : c ∈ hexJoin xs) : c = 58 ∨ okC c := by
  rcases join_mem _ h with h | ⟨x, hx, h⟩
  · exact .inl h
  · obtain ⟨n, _, rfl⟩ := List.mem_map.1 hx
    exact .inr (hexU_ok h)
theorem txt6_mem {c : UInt8} {a : List Nat} (h : c ∈ txt6 a) : c = 58 ∨ okC c := by
  unfold txt6 at h
  split at h
  · left; simpa using h
  · split at h
    · exact hexJoin_mem h
    · rcases List.mem_append.1 h with h | h
      · rcases List.mem_append.1 h with h | h
        · exact hexJoin_mem h
        · left; simpa using h
      · exact hexJoin_mem h
theorem valF_lt {b : Nat} (hb : 0 < b) : ∀ (l : List UInt8) (acc : Nat), allD b l = true → valF b acc l < (acc + 1) * b ^ l.length
  | [], acc, _ => by unfold valF; simp
  | c :: r, acc, h => by
    unfold allD at h
    rw [List.all_cons, Bool.and_eq_true] at h
    have h1 := of_decide_eq_true h.1
    have ih := valF_lt hb r (acc * b + dgN c) h.2
    unfold valF
    refine Nat.lt_of_lt_of_le ih ?_
    rw [List.length_cons, Nat.pow_succ, Nat.mul_comm (b ^ r.length) b, ← Nat.mul_assoc]
    refine Nat.mul_le_mul_right _ ?_
    rw [Nat.add_mul]
    omega
theorem piece_lt {w : List UInt8} {n : Nat} (h : pieceL w = some n) : n < 65536 := by
  unfold pieceL at h
  split at h
  · rename_i hw
    obtain rfl := Option.some.inj h
    have := valF_lt (by decide) w 0 hw.2.2
    have h2 : 16 ^ w.length ≤ 16 ^ 4 := Nat.pow_le_pow_right (by omega) hw.2.1
    unfold val
    omega
  · cases h
theorem dot_lt {w : List UInt8} {a b : Nat} (h : dotL w = some (a, b)) : a < 65536 ∧ b < 65536 := by
  unfold dotL dotM at h
  split at h
  · rename_i p q r s he
    simp only [Option.some.injEq, Prod.mk.injEq] at h
    have hm : ∀ x, some x ∈ (parts 46 w).map decP → x < 256 := fun x hx => by
      obtain ⟨y, _, hy⟩ := List.mem_map.1 hx
      exact (decP_some hy).1
    rw [he] at hm
    have := hm p (by simp)
    have := hm q (by simp)
    have := hm r (by simp)
    have := hm s (by simp)
    omega
  · cases h
theorem pcsF_lt (e : Bool) : ∀ (ps : List (List UInt8)) (r : List Nat), pcsF e ps = some r → ∀ x ∈ r, x < 65536
  | [], r, h, x, hx => by unfold pcsF at h; obtain rfl := Option.some.inj h; cases hx
  | w :: ws, r, h, x, hx => by
    unfold pcsF at h
    split at h
    · rename_i a b hd
      obtain rfl := Option.some.inj h
      split at hd
      · have := dot_lt hd
        simp only [List.mem_cons, List.not_mem_nil, or_false] at hx
        omega
      · cases hd
    · split at h
      · rename_i n l h1 h2
        obtain rfl := Option.some.inj h
        rcases List.mem_cons.1 hx with rfl | hx
        · exact piece_lt h1
        · exact pcsF_lt e ws l h2 x hx
      · cases h
theorem pcsL_lt {e : Bool} {l : List UInt8} {r : List Nat} (h : pcsL e l = some r) : ∀ x ∈ r, x < 65536 := by
  unfold pcsL at h
  split at h
  · obtain rfl := Option.some.inj h; intro x hx; cases hx
  · exact pcsF_lt e _ r h
theorem v6_good {l : List UInt8} {c : List Nat} (h : v6L l = some c) : c.length = 8 ∧ ∀ x ∈ c, x < 65536 := by
  unfold v6L at h
  split at h
  · split at h
    · rename_i a b ha hb
      split at h
      · rename_i hl
        obtain rfl := Option.some.inj h
        refine ⟨by simp; omega, fun x hx => ?_⟩
        rcases List.mem_append.1 hx with hx | hx
        · rcases List.mem_append.1 hx with hx | hx
          · exact pcsL_lt ha x hx
          · rw [List.eq_of_mem_replicate hx]; decide
        · exact pcsL_lt hb x hx
      · cases h
    · cases h
  · split at h
    · rename_i a ha
      split at h
      · rename_i hl
        obtain rfl := Option.some.inj h
        exact ⟨hl, pcsL_lt ha⟩
      · cases h
    · cases h
theorem dot_txt4 {n : Nat} (h : n < 4294967296) : dotL (txt4 n) = some (n / 65536, n % 65536) := by
  unfold dotL
  rw [txt4_parts]
  unfold four
  simp only [List.map_cons, List.map_nil, decP_dec3 (Nat.mod_lt _ (by decide : 0 < 256))]
  show some _ = _
  congr 1
  rw [Prod.mk.injEq]
  constructor <;> omega
theorem v6_of4 {n : Nat} (h : n < 4294967296) : v6L (58 :: 58 :: txt4 n) = some [0, 0, 0, 0, 0, 0, n / 65536, n % 65536] := by
  have hc : Lib.cut (58 :: 58 :: txt4 n) [58, 58] = ([], txt4 n, true) := cut_at (A := []) rfl
  have hp : pcsL true (txt4 n) = some [n / 65536, n % 65536] := by
    unfold pcsL
    rw [if_neg (txt4_ne n), parts_free (txt4_nocolon n)]
    unfold pcsF
    rw [if_pos ⟨rfl, rfl⟩, dot_txt4 h]
  unfold v6L
  rw [hc, hp]
  rfl
theorem decP_nil : decP [] = none := by decide +kernel
theorem piece_dot (w : List UInt8) : pieceL (w ++ [46]) = none := by
  unfold pieceL
  rw [if_neg]
  rintro ⟨_, _, h⟩
  unfold allD at h
  rw [List.all_append, Bool.and_eq_true] at h
  revert h
  simp [dgN]
theorem dot_dot (w : List UInt8) : dotL (w ++ [46]) = none := by
  unfold dotL
  rw [parts_snoc_sep, List.map_append]
  exact dotM_none (by rw [List.map_cons, decP_nil]; simp)
theorem pcsF_dot (e : Bool) (w : List UInt8) : ∀ ps : List (List UInt8), pcsF e (ps ++ [w ++ [46]]) = none
  | [] => by
    show pcsF e [w ++ [46]] = none
    unfold pcsF
    have : (if e = true ∧ ([] : List (List UInt8)).isEmpty = true then dotL (w ++ [46]) else none) = none := by
      split
      · exact dot_dot w
      · rfl
    rw [this, piece_dot]
  | p :: r => by
    have ih := pcsF_dot e w r
    show pcsF e (p :: (r ++ [w ++ [46]])) = none
    unfold pcsF
    have : (if e = true ∧ (r ++ [w ++ [46]]).isEmpty = true then dotL p else none) = none := by rw [if_neg (by simp)]
    rw [this, ih]
    cases pieceL p <;> rfl
theorem pcsL_dot (e : Bool) (l : List UInt8) : pcsL e (l ++ [46]) = none := by
  obtain ⟨ps, p, _, h2⟩ := parts_snoc (c := 58) (x := 46) (by decide) l
  unfold pcsL
  rw [if_neg (by simp), h2]
  exact pcsF_dot e p ps
theorem cut_dot (l : List UInt8) : ∀ {A B : List UInt8}, Lib.cut (l ++ [46]) [58, 58] = (A, B, true) → ∃ B', B = B' ++ [46] := by
  intro A B h
  unfold Lib.cut at h
  split at h
  · rename_i h0
    simp only [Prod.mk.injEq] at h
    obtain ⟨h9, h, _⟩ := h
    clear h9
    have hle : (Lib.index (l ++ [46]) [58, 58]).toNat + 2 ≤ l.length := by
      clear h
      induction l with
      | nil => exfalso; revert h0; rw [show ([] : List UInt8) ++ [46] = [46] from rfl, index_cons]; decide
      | cons b r ih =>
        rw [List.cons_append, index_cons] at h0 ⊢
        split
        · rename_i hp
          rw [List.length_cons]
          cases r with
          | nil => exfalso; simp [List.isPrefixOf] at hp
          | cons c q => simp
        · rename_i hp
          rw [if_neg hp] at h0
          split
          · rename_i h1; rw [if_pos h1] at h0; exact absurd h0 (by decide)
          · rename_i h1
            rw [if_neg h1] at h0
            have hge := Lib.index_ge (r ++ [46]) [58, 58]
            have hne : Lib.index (r ++ [46]) [58, 58] ≠ -1 := fun e => h1 (by rw [e]; rfl)
            have := ih (by omega)
            rw [List.length_cons]
            obtain ⟨z, hz⟩ : ∃ z : Nat, Lib.index (r ++ [46]) [58, 58] = z := ⟨(Lib.index (r ++ [46]) [58, 58]).toNat, by omega⟩
            rw [hz, Int.toNat_natCast] at this
            have e : ((z : Int) + 1).toNat = z + 1 := by omega
            rw [hz, e]
            omega
    rw [← h]
    rw [show ([58, 58] : List UInt8).length = 2 from rfl, List.drop_append_of_le_length (by omega)]
    exact ⟨_, rfl⟩
  · simp at h
theorem v6_dot (l : List UInt8) : v6L (l ++ [46]) = none := by
  unfold v6L
  obtain ⟨⟨A, B, g⟩, hc⟩ : ∃ z, Lib.cut (l ++ [46]) [58, 58] = z := ⟨_, rfl⟩
  rw [hc]
  cases g with
  | true =>
    obtain ⟨B', rfl⟩ := cut_dot l hc
    rw [if_pos rfl]
    show (match pcsL false A, pcsL true (B' ++ [46]) with | some a, some b => _ | _, _ => none) = none
    rw [pcsL_dot]
    cases pcsL false A <;> rfl
  | false =>
    rw [if_neg (by simp), pcsL_dot]
end Go.Proofs.YtkabhnbjjnjdhaaDoor.Ad
