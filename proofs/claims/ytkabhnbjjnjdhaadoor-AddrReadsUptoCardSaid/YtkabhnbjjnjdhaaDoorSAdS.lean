/- The document's addresses of version 6, plain: four decimal numbers, pieces, what is read. -/
import Derived.Test.YtkabhnbjjnjdhaaDoorSAdR
import Derived.Test.YtkabhnbjjnjdhaaDoorSRV6
set_option linter.unusedSimpArgs false
set_option linter.unusedVariables false
namespace Go.Proofs.YtkabhnbjjnjdhaaDoor.Q
open Go.RowKit Go.Proofs.YtkabhnbjjnjdhaaDoorW.PrintWords Go.Proofs.YtkabhnbjjnjdhaaDoorW.PrintLast Go.Proofs.YtkabhnbjjnjdhaaDoorW.PrintMore Go.Proofs.YtkabhnbjjnjdhaaDoor.Ad
def okDec (w : List UInt8) : Bool := !w.isEmpty && decide (w.length ≤ 3) && !(decide (1 < w.length) && w.getD 0 0 == 48) && allD 10 w && decide (val 10 w ≤ 255)
theorem okDec_dec3 : ∀ n : Fin 256, okDec (dec3 n.val) = true ∧ val 10 (dec3 n.val) = n.val := by decide +kernel
theorem dig_of {c : UInt8} (h : dgN c < 10) : c = UInt8.ofNat (48 + dgN c) ∧ (c ≠ 48 → 1 ≤ dgN c) := by
  have h1 := (dgN10 c).1 h
  have h2 : dgN c = c.toNat - 48 := by unfold dgN; rw [if_pos h1]
  rw [h2, show 48 + (c.toNat - 48) = c.toNat from by omega]
  refine ⟨by simp, fun h => ?_⟩
  by_cases h3 : c.toNat = 48
  · exact absurd (UInt8.toNat_inj.1 h3) h
  · omega
theorem okDec_eq {w : List UInt8} (h : okDec w = true) : w = dec3 (val 10 w) ∧ val 10 w ≤ 255 := by
  unfold okDec at h
  simp only [Bool.and_eq_true, Bool.not_eq_true', decide_eq_true_eq, Bool.and_eq_false_iff] at h
  obtain ⟨⟨⟨⟨h1, h2⟩, h3⟩, h4⟩, h5⟩ := h
  refine ⟨?_, h5⟩
  unfold allD at h4
  match w, h1, h2, h3, h4, h5 with
  | [a], _, _, _, h4, _ =>
    simp only [List.all_cons, List.all_nil, Bool.and_true, decide_eq_true_eq] at h4
    have e : val 10 [a] = dgN a := by show 0 * 10 + dgN a = _; omega
    rw [e]
    unfold dec3
    rw [if_pos h4, ← (dig_of h4).1]
  | [a, b], _, _, h3, h4, _ =>
    simp only [List.all_cons, List.all_nil, Bool.and_true, Bool.and_eq_true, decide_eq_true_eq] at h4
    obtain ⟨ha, hb⟩ := h4
    have h48 : a ≠ 48 := by
      rcases h3 with h3 | h3
      · simp at h3
      · intro h; rw [h] at h3; simp at h3
    have hd := (dig_of ha).2 h48
    have e : val 10 [a, b] = dgN a * 10 + dgN b := by show (0 * 10 + dgN a) * 10 + dgN b = _; omega
    rw [e]
    unfold dec3
    rw [if_neg (by omega), if_pos (by omega), show (dgN a * 10 + dgN b) / 10 = dgN a from by omega, show (dgN a * 10 + dgN b) % 10 = dgN b from by omega, ← (dig_of ha).1, ← (dig_of hb).1]
  | [a, b, c], _, _, h3, h4, _ =>
    simp only [List.all_cons, List.all_nil, Bool.and_true, Bool.and_eq_true, decide_eq_true_eq] at h4
    obtain ⟨ha, hb, hc⟩ := h4
    have h48 : a ≠ 48 := by
      rcases h3 with h3 | h3
      · simp at h3
      · intro h; rw [h] at h3; simp at h3
    have hd := (dig_of ha).2 h48
    have e : val 10 [a, b, c] = dgN a * 100 + dgN b * 10 + dgN c := by show ((0 * 10 + dgN a) * 10 + dgN b) * 10 + dgN c = _; omega
    rw [e]
    unfold dec3
    rw [if_neg (by omega), if_neg (by omega), show (dgN a * 100 + dgN b * 10 + dgN c) / 100 = dgN a from by omega, show (dgN a * 100 + dgN b * 10 + dgN c) / 10 % 10 = dgN b from by omega, show (dgN a * 100 + dgN b * 10 + dgN c) % 10 = dgN c from by omega, ← (dig_of ha).1, ← (dig_of hb).1, ← (dig_of hc).1]
theorem decP_ok_eq (w : List UInt8) : decP w = if okDec w = true then some (val 10 w) else none := by
  cases hd : decP w with
  | some n =>
    obtain ⟨h1, rfl⟩ := decP_some hd
    obtain ⟨h2, h3⟩ := okDec_dec3 ⟨n, h1⟩
    rw [if_pos h2, h3]
  | none =>
    by_cases h : okDec w = true
    · obtain ⟨e1, e2⟩ := okDec_eq h
      rw [e1, decP_dec3 (by omega)] at hd
      cases hd
    · rw [if_neg h]
def sF (s : Nat) : List (List UInt8) → Option Nat
  | [] => some s
  | w :: r => match decP w with
    | some n => sF (256 * s + n) r
    | none => none
def res2' (o : Option Nat) : Int × Bool := match o with
  | some v => ((v : Int), true)
  | none => (0, false)
theorem strict_l2 (w : List UInt8) (hw : w.length ≤ 3) (xs : List ByteArray) (n : Int) (s : Nat) (hs : s ≤ 16777215) (i : Int) (F : Nat) : ∀ (r : List UInt8) (j acc : Nat), w.drop j = r → j ≤ w.length → acc < 10 ^ j → bastionref07_strict.l2 (F + 3 + r.length) (s : Int) (B w) (acc : Int) (j : Int) xs n i = if allD 10 r = true then (if valF 10 acc r ≤ 255 then bastionref07_strict.l1 (F + 2) ((256 * s + valF 10 acc r : Nat) : Int) xs n (wrap64 (i + 1)) else some (0, false)) else some (0, false)
  | [], j, acc, h, hj, ha => by
    have hlen : w.length ≤ j := by
      have := congrArg List.length h
      rw [List.length_drop] at this
      simp at this
      omega
    have ha3 : acc < 1000 := Nat.lt_of_lt_of_le ha (Nat.le_trans (Nat.pow_le_pow_right (by decide) (show j ≤ 3 by omega)) (by decide))
    rw [show F + 3 + ([] : List UInt8).length = (F + 2) + 1 from rfl]
    unfold bastionref07_strict.l2
    rw [B_size, if_neg (by omega), if_pos (show allD 10 ([] : List UInt8) = true from rfl)]
    show _ = if acc ≤ 255 then _ else _
    by_cases h5 : acc ≤ 255
    · have hu : IntKind.u64.wrap (IntKind.u64.wrap (256 * (s : Int)) + (acc : Int)) = ((256 * s + acc : Nat) : Int) := by rw [IntKind.wrap_u64, IntKind.wrap_u64]; omega
      rw [if_neg (by omega), if_pos h5, hu]
      rfl
    · rw [if_pos (by omega), if_neg h5]
  | c :: r, j, acc, h, hj, ha => by
    obtain ⟨hil, hbt, hr, _⟩ := bt_drop w j c r h
    have ha3 : acc < 1000 := Nat.lt_of_lt_of_le ha (Nat.le_trans (Nat.pow_le_pow_right (by decide) (show j ≤ 3 by omega)) (by decide))
    have hd := dgN10 c
    rw [show F + 3 + (c :: r).length = (F + 3 + r.length) + 1 from by rw [List.length_cons]; omega]
    unfold bastionref07_strict.l2
    rw [B_size, if_pos (by omega), if_pos (by omega), hbt, show F + 3 + r.length = (F + 1 + r.length) + 2 from by omega, digit_f c (F + 1 + r.length), Option.bind_some]
    unfold allD
    rw [List.all_cons]
    by_cases h1 : c.toNat < 48
    · rw [if_pos (by omega), decide_eq_false (by omega), Bool.false_and, if_neg (by decide)]
    · rw [if_neg (by omega)]
      by_cases h2 : 57 < c.toNat
      · rw [if_pos (by omega), decide_eq_false (by omega), Bool.false_and, if_neg (by decide)]
      · have hlt : dgN c < 10 := by omega
        have h16 : dg16 c = dgN c := (dg16_lt (b := 16) (by omega) c).2 (by omega)
        have hw1 : wrap64 ((j : Int) + 1) = ((j + 1 : Nat) : Int) := by rw [wrap64_of (by omega) (by omega)]; omega
        have hu : IntKind.u64.wrap (IntKind.u64.wrap (10 * (acc : Int)) + ((dgN c : Nat) : Int)) = ((acc * 10 + dgN c : Nat) : Int) := by rw [IntKind.wrap_u64, IntKind.wrap_u64]; omega
        have ih := strict_l2 w hw xs n s hs i F r (j + 1) (acc * 10 + dgN c) hr hil (by rw [Nat.pow_succ]; omega)
        rw [if_neg (by omega), decide_eq_true hlt, Bool.true_and, h16, hu, hw1, show (F + 1 + r.length) + 2 = F + 3 + r.length from by omega]
        exact ih
theorem strict_l1 (ws : List (List UInt8)) (hws : ws.length ≤ 4) : ∀ (r : List (List UInt8)) (i s F : Nat), ws.drop i = r → i ≤ ws.length → s < 256 ^ i → bastionref07_strict.l1 (F + 10 * r.length + 2) (s : Int) (ws.map B) (ws.length : Int) (i : Int) = some (res2' (sF s r))
  | [], i, s, F, h, hi, hs => by
    have hlen : ws.length ≤ i := by
      have := congrArg List.length h
      rw [List.length_drop] at this
      simp at this
      omega
    rw [show F + 10 * ([] : List (List UInt8)).length + 2 = (F + 1) + 1 from rfl]
    unfold bastionref07_strict.l1
    rw [if_neg (by omega)]
    rfl
  | w :: r, i, s, F, h, hi, hs => by
    have hil : i < ws.length := by
      by_cases hil : i < ws.length
      · exact hil
      · rw [List.drop_of_length_le (by omega)] at h; cases h
    have hd := h
    rw [List.drop_eq_getElem_cons hil] at hd
    injection hd with hd1 hd2
    have hrd : rdOf ByteArray.empty (ws.map B) (i : Int) = B w := by
      unfold rdOf
      rw [Int.toNat_natCast, List.getD_eq_getElem?_getD, List.getElem?_map, List.getElem?_eq_getElem hil, hd1]; rfl
    have hml : (ws.map B).length = ws.length := List.length_map _
    have hw1 : wrap64 ((i : Int) + 1) = ((i + 1 : Nat) : Int) := by rw [wrap64_of (by omega) (by omega)]; omega
    have hs3 : s ≤ 16777215 := by
      have : s < 256 ^ 3 := Nat.lt_of_lt_of_le hs (Nat.pow_le_pow_right (by decide) (by omega))
      simp at this
      omega
    have HSI := Lib.hid hs
    clear hs
    -- what the word says
    have key : ∀ x : Bool, bastionref07_strict.j2 (F + 10 * (w :: r).length + 1) (s : Int) (B w) (ws.map B) (ws.length : Int) (i : Int) x = if x = true then some (0, false) else bastionref07_strict.l2 (F + 10 * (w :: r).length) (s : Int) (B w) 0 0 (ws.map B) (ws.length : Int) (i : Int) := fun x => by
      rw [bastionref07_strict.j2]
    rw [show F + 10 * (w :: r).length + 2 = (F + 10 * (w :: r).length + 1) + 1 from rfl]
    unfold bastionref07_strict.l1
    rw [if_pos (by omega), if_pos (by omega), hml, if_pos (by omega), hrd, B_toList, B_size, key, key, key]
    unfold sF
    rw [decP_ok_eq]
    have hbad : okDec w = false → some (res2' (match (if okDec w = true then some (val 10 w) else none) with | some n => sF (256 * s + n) r | none => none)) = some ((0 : Int), false) := fun h => by rw [h]; rfl
    by_cases h0 : w = []
    · rw [if_pos h0, if_pos rfl, hbad (by rw [h0]; rfl)]
    · rw [if_neg h0]
      have hemp : w.isEmpty = false := List.isEmpty_eq_false_iff.2 h0
      by_cases h3 : w.length ≤ 3
      · rw [if_neg (by omega)]
        have hl2 := strict_l2 w h3 (ws.map B) (ws.length : Int) s hs3 (i : Int) (F + 10 * r.length + 10 - 3 - w.length) w 0 0 rfl (Nat.zero_le _) (by simp)
        rw [show F + 10 * r.length + 10 - 3 - w.length + 3 + w.length = F + 10 * (w :: r).length from by rw [List.length_cons]; omega, hw1] at hl2
        have hcont : (if allD 10 w = true then (if valF 10 0 w ≤ 255 then bastionref07_strict.l1 (F + 10 * r.length + 10 - 3 - w.length + 2) ((256 * s + valF 10 0 w : Nat) : Int) (ws.map B) (ws.length : Int) ((i + 1 : Nat) : Int) else some (0, false)) else some (0, false)) = some (res2' (if allD 10 w = true ∧ val 10 w ≤ 255 then sF (256 * s + val 10 w) r else none)) := by
          show (if allD 10 w = true then (if val 10 w ≤ 255 then bastionref07_strict.l1 (F + 10 * r.length + 10 - 3 - w.length + 2) ((256 * s + val 10 w : Nat) : Int) (ws.map B) (ws.length : Int) ((i + 1 : Nat) : Int) else some (0, false)) else some (0, false)) = _
          by_cases ha : allD 10 w = true
          · by_cases hv : val 10 w ≤ 255
            · rw [if_pos ha, if_pos hv, if_pos ⟨ha, hv⟩]
              have := strict_l1 ws hws r (i + 1) (256 * s + val 10 w) (F + 10 - 3 - w.length) hd2 hil (by
                have := HSI.out
                rw [Nat.pow_succ]
                generalize 256 ^ i = z at *
                omega)
              rw [show F + 10 - 3 - w.length + 10 * r.length + 2 = F + 10 * r.length + 10 - 3 - w.length + 2 from by omega] at this
              exact this
            · rw [if_pos ha, if_neg hv, if_neg (fun h => hv h.2)]; rfl
          · rw [if_neg ha, if_neg (fun h => ha h.1)]; rfl
        rw [hcont, show ((0 : Nat) : Int) = 0 from rfl] at hl2
        have hok : ∀ b : Bool, (decide (1 < w.length) && w.getD 0 0 == 48) = b → okDec w = (!b && allD 10 w && decide (val 10 w ≤ 255)) := fun b hb => by
          unfold okDec
          rw [hemp, hb, decide_eq_true h3]
          simp
        have hfin : okDec w = (allD 10 w && decide (val 10 w ≤ 255)) → some (res2' (match (if okDec w = true then some (val 10 w) else none) with | some n => sF (256 * s + n) r | none => none)) = some (res2' (if allD 10 w = true ∧ val 10 w ≤ 255 then sF (256 * s + val 10 w) r else none)) := fun h => by
          by_cases hP : allD 10 w = true ∧ val 10 w ≤ 255
          · have ho : okDec w = true := by rw [h, hP.1, decide_eq_true hP.2]; rfl
            rw [if_pos ho, if_pos hP]
          · have ho : ¬ okDec w = true := fun h' => hP (by rw [h, Bool.and_eq_true] at h'; exact ⟨h'.1, of_decide_eq_true h'.2⟩)
            rw [if_neg ho, if_neg hP]
        by_cases h1 : 1 < w.length
        · rw [if_pos (by omega), if_pos (by omega)]
          have hb0 : (bt (B w) 0 == 48) = (w.getD 0 0 == 48) := by
            have e : bt (B w) 0 = ((w.getD 0 0).toNat : Int) := B_bt w 0
            rw [e]
            by_cases h : w.getD 0 0 = 48
            · rw [h]; rfl
            · rw [beq_eq_false_iff_ne.2 h, beq_eq_false_iff_ne]
              exact fun h' => h (UInt8.toNat_inj.1 (by show (w.getD 0 0).toNat = 48; omega))
          rw [hb0]
          cases h48 : (w.getD 0 0 == 48) with
          | true =>
            rw [if_pos rfl, hbad (by rw [hok true (by rw [decide_eq_true h1, h48]; rfl)]; rfl)]
          | false =>
            rw [if_neg (by decide), hl2, hfin (by rw [hok false (by rw [h48, Bool.and_false])]; rfl)]
        · rw [if_neg (by omega), if_neg (by decide), hl2, hfin (by rw [hok false (by rw [decide_eq_false h1]; rfl)]; rfl)]
      · rw [if_pos (by omega), if_pos rfl, hbad (by unfold okDec; rw [decide_eq_false h3]; simp)]
theorem sF_four {s : Nat} {ws : List (List UInt8)} : ∀ r : List (List UInt8), r.length = 4 → sF 0 r = (dotM (r.map decP)).map fun x => x.1 * 65536 + x.2
  | [a, b, c, d], _ => by
    unfold sF
    show (match decP a with | some n => sF (256 * 0 + n) [b, c, d] | none => none) = (dotM [decP a, decP b, decP c, decP d]).map _
    cases decP a with
    | none => rfl
    | some na =>
      dsimp only
      unfold sF
      cases decP b with
      | none => rfl
      | some nb =>
        dsimp only
        unfold sF
        cases decP c with
        | none => rfl
        | some nc =>
          dsimp only
          unfold sF
          cases decP d with
          | none => rfl
          | some nd =>
            dsimp only
            unfold sF dotM
            rw [Option.map_some]
            congr 1
            dsimp only
            omega
theorem strict_l0 (l : List UInt8) (hl : l.length ≤ 1000000000) : ∀ (r : List UInt8) (i k : Nat) (ps : List (List UInt8)) (p : List UInt8), l.drop i = r → i ≤ l.length → parts 46 (l.take i) = ps ++ [p] → bastionref07_strict.l0 (k + r.length + 50) (B l) ((ps ++ [p]).map B) (i : Int) = some (res2' ((dotL l).map fun x => x.1 * 65536 + x.2))
  | [], i, k, ps, p, h, hi, hp => by
    have hlen : l.length ≤ i := by
      have := congrArg List.length h
      rw [List.length_drop] at this
      simp at this
      omega
    rw [List.take_of_length_le hlen] at hp
    have hx : ((ps ++ [p]).map B).length = (ps ++ [p]).length := List.length_map _
    rw [show k + ([] : List UInt8).length + 50 = (k + 49) + 1 from rfl]
    unfold bastionref07_strict.l0 dotL
    rw [hp, B_size, if_neg (by omega), hx]
    by_cases h4 : (ps ++ [p]).length = 4
    · rw [if_pos (by omega)]
      have := strict_l1 (ps ++ [p]) (by omega) (ps ++ [p]) 0 0 (k + 7) rfl (Nat.zero_le _) (by decide)
      rw [show k + 7 + 10 * (ps ++ [p]).length + 2 = k + 49 from by omega, show (((ps ++ [p]).length : Nat) : Int) = 4 from by omega] at this
      rw [show (((ps ++ [p]).length : Nat) : Int) = 4 from by omega]
      refine this.trans ?_
      rw [sF_four (s := 0) (ws := []) _ h4]
    · rw [if_neg (by omega), dotM_len (by rw [List.length_map]; exact h4)]
      rfl
  | c :: r, i, k, ps, p, h, hi, hp => by
    obtain ⟨hil, hbt, hr, _⟩ := bt_drop l i c r h
    obtain ⟨n1, n2, n3⟩ := words_next 46 l i c r h ps p hp
    obtain ⟨s1, s2, s3, s4, s5⟩ := words_set l hl i c r h ps p (by omega)
    rw [show k + (c :: r).length + 50 = (k + r.length + 50) + 1 from by rw [List.length_cons]; omega]
    have hx : ((ps ++ [p]).map B).length = ps.length + 1 := by simp
    have h46 : ((c.toNat : Int) = 46) ↔ c = 46 := ⟨fun h => UInt8.toNat_inj.1 (by show c.toNat = 46; omega), fun h => by rw [h]; rfl⟩
    unfold bastionref07_strict.l0
    rw [B_size, if_pos (by omega), if_pos (by omega), hbt]
    by_cases hc : c = 46
    · rw [if_pos hc] at n3
      have := strict_l0 l hl r (i + 1) k (ps ++ [p]) [] hr hil n3
      rw [if_pos (h46.2 hc), if_pos (by rw [hx]; omega), s5]
      rw [List.map_append] at this
      exact this
    · rw [if_neg hc] at n3
      have := strict_l0 l hl r (i + 1) k ps (p ++ [c]) hr hil n3
      rw [if_neg (fun h => hc (h46.1 h)), s1, s2, s3, s4, if_pos (by omega), if_pos (by rw [hx]; omega), s5, if_pos (by omega), if_pos (by omega), if_pos (by rw [B_size, B_size]; simp; omega)]
      exact this
theorem strict_F (l : List UInt8) (hl : l.length ≤ 1000000000) (K : Nat) (hK : l.length + 50 ≤ K) : bastionref07_strict.f K (B l) = some (res2' ((dotL l).map fun x => x.1 * 65536 + x.2)) := by
  obtain ⟨k, rfl⟩ : ∃ k, K = k + l.length + 50 := ⟨K - l.length - 50, by omega⟩
  exact strict_l0 l hl l 0 k [] [] rfl (Nat.zero_le _) rfl
def cast (xs : List Nat) : List Int := xs.map fun x : Nat => (x : Int)
def resP (acc : List Nat) (o : Option (List Nat)) : List Int × Bool := match o with
  | some q => (cast (acc ++ q), true)
  | none => ([], false)
theorem u16_nat {n : Nat} (h : n < 65536) : IntKind.u16.wrap (n : Int) = (n : Int) := by rw [IntKind.wrap_u16]; omega
theorem runs_l2 (w : List UInt8) (hw : w.length ≤ 4) (e : Bool) (xs ys : List ByteArray) (acc : List Nat) (hacc : acc.length ≤ 10000000000) (n i : Int) (F : Nat) : ∀ (r : List UInt8) (j a : Nat), w.drop j = r → j ≤ w.length → a < 16 ^ j → bastionref07_runs.l2 (F + 3 + r.length) e xs (cast acc) (B w) (a : Int) (j : Int) ys n i = if allD 16 r = true then bastionref07_runs.l1 (F + 2) e xs (cast (acc ++ [valF 16 a r])) ys n (wrap64 (i + 1)) else some ([], false)
  | [], j, a, h, hj, ha => by
    have hlen : w.length ≤ j := by
      have := congrArg List.length h
      rw [List.length_drop] at this
      simp at this
      omega
    have ha3 : a < 65536 := Nat.lt_of_lt_of_le ha (Nat.le_trans (Nat.pow_le_pow_right (by decide) (show j ≤ 4 by omega)) (by decide))
    have hcl : (cast acc).length = acc.length := List.length_map _
    rw [show F + 3 + ([] : List UInt8).length = (F + 2) + 1 from rfl]
    unfold bastionref07_runs.l2
    rw [B_size, if_neg (by omega), if_pos (by rw [hcl]; omega), if_pos (show allD 16 ([] : List UInt8) = true from rfl), u16_nat ha3]
    show bastionref07_runs.l1 (F + 2) e xs (cast acc ++ cast [a]) ys n (wrap64 (i + 1)) = _
    rw [show cast acc ++ cast [a] = cast (acc ++ [a]) from (List.map_append ..).symm]
    rfl
  | c :: r, j, a, h, hj, ha => by
    obtain ⟨hil, hbt, hr, _⟩ := bt_drop w j c r h
    have ha3 : a < 65536 := Nat.lt_of_lt_of_le ha (Nat.le_trans (Nat.pow_le_pow_right (by decide) (show j ≤ 4 by omega)) (by decide))
    obtain ⟨d1, d2⟩ := dg16_lt (b := 16) (by omega) c
    have hw1 : wrap64 ((j : Int) + 1) = ((j + 1 : Nat) : Int) := by rw [wrap64_of (by omega) (by omega)]; omega
    rw [show F + 3 + (c :: r).length = (F + 3 + r.length) + 1 from by rw [List.length_cons]; omega]
    unfold bastionref07_runs.l2
    rw [B_size, if_pos (by omega), if_pos (by omega), hbt, show F + 3 + r.length = (F + 1 + r.length) + 2 from by omega, digit_f c (F + 1 + r.length), Option.bind_some]
    unfold allD
    rw [List.all_cons]
    by_cases hlt : dgN c < 16
    · have hd' : dg16 c < 16 := d1.2 hlt
      have hu : IntKind.u64.wrap (IntKind.u64.wrap (16 * (a : Int)) + ((dgN c : Nat) : Int)) = ((a * 16 + dgN c : Nat) : Int) := by rw [IntKind.wrap_u64, IntKind.wrap_u64]; omega
      have ih := runs_l2 w hw e xs ys acc hacc n i F r (j + 1) (a * 16 + dgN c) hr hil (by rw [Nat.pow_succ]; omega)
      rw [if_neg (by omega), decide_eq_true hlt, Bool.true_and, d2 hlt, hu, hw1, show (F + 1 + r.length) + 2 = F + 3 + r.length from by omega]
      exact ih
    · have hd' : ¬ dg16 c < 16 := fun h => hlt (d1.1 h)
      rw [if_pos (by omega), decide_eq_false hlt, Bool.false_and, if_neg (by decide)]
theorem runs_l1 (e : Bool) (ws : List (List UInt8)) (M : Nat) (hM : M ≤ 1000000000) (hn : ws.length ≤ 1000000001) (hws : ∀ w ∈ ws, w.length ≤ M) : ∀ (r : List (List UInt8)) (i F : Nat) (acc : List Nat), ws.drop i = r → i ≤ ws.length → acc.length ≤ 2 * i → bastionref07_runs.l1 (F + 10 * r.length + M + 60) e (ws.map B) (cast acc) (ws.map B) (ws.length : Int) (i : Int) = some (resP acc (pcsF e r))
  | [], i, F, acc, h, hi, ha => by
    have hlen : ws.length ≤ i := by
      have := congrArg List.length h
      rw [List.length_drop] at this
      simp at this
      omega
    rw [show F + 10 * ([] : List (List UInt8)).length + M + 60 = (F + M + 59) + 1 from rfl]
    unfold bastionref07_runs.l1
    rw [if_neg (by omega)]
    unfold pcsF
    show some (cast acc, true) = some (cast (acc ++ []), true)
    rw [List.append_nil]
  | w :: r, i, F, acc, h, hi, ha => by
    have hil : i < ws.length := by
      by_cases hil : i < ws.length
      · exact hil
      · rw [List.drop_of_length_le (by omega)] at h; cases h
    have hd := h
    rw [List.drop_eq_getElem_cons hil] at hd
    injection hd with hd1 hd2
    have hrd : rdOf ByteArray.empty (ws.map B) (i : Int) = B w := by
      unfold rdOf
      rw [Int.toNat_natCast, List.getD_eq_getElem?_getD, List.getElem?_map, List.getElem?_eq_getElem hil, hd1]; rfl
    have hwM : w.length ≤ M := hws w (by rw [← hd1]; exact List.getElem_mem hil)
    have hml : (ws.map B).length = ws.length := List.length_map _
    have hw : wrap64 ((ws.length : Int) - 1) = ((ws.length - 1 : Nat) : Int) := by rw [wrap64_of (by omega) (by omega)]; omega
    have hw1 : wrap64 ((i : Int) + 1) = ((i + 1 : Nat) : Int) := by rw [wrap64_of (by omega) (by omega)]; omega
    have hrl : r.length = ws.length - (i + 1) := by rw [← hd2, List.length_drop]
    have hcl : (cast acc).length = acc.length := List.length_map _
    obtain ⟨G, hG⟩ : ∃ G, G = F + 10 * r.length + M + 60 := ⟨_, rfl⟩
    have hfu : F + 10 * (w :: r).length + M + 60 = (G + 9) + 1 := by rw [List.length_cons]; omega
    -- the piece
    have hj3 : ∀ K : Nat, K = G + 7 → bastionref07_runs.j3 (K + 1) e (ws.map B) (cast acc) (B w) (ws.map B) (ws.length : Int) (i : Int) = some (resP acc (match pieceL w, pcsF e r with | some n, some l => some (n :: l) | _, _ => none)) := by
      intro K hK
      rw [bastionref07_runs.j3, B_toList, B_size]
      have hj4 : ∀ x : Bool, bastionref07_runs.j4 K e (ws.map B) (cast acc) (B w) (ws.map B) (ws.length : Int) (i : Int) x = if x = true then some ([], false) else bastionref07_runs.l2 (G + 6) e (ws.map B) (cast acc) (B w) 0 0 (ws.map B) (ws.length : Int) (i : Int) := fun x => by
        rw [hK, show G + 7 = (G + 6) + 1 from rfl, bastionref07_runs.j4]
      rw [hj4, hj4]
      unfold pieceL
      by_cases h0 : w = []
      · rw [if_pos h0, if_pos rfl, if_neg (fun h => h.1 h0)]
        rfl
      · rw [if_neg h0]
        by_cases h4 : w.length ≤ 4
        · rw [if_neg (by rw [decide_eq_true_eq]; omega)]
          have hl2 := runs_l2 w h4 e (ws.map B) (ws.map B) acc (by omega) (ws.length : Int) (i : Int) (G + 3 - w.length) w 0 0 rfl (Nat.zero_le _) (by decide)
          rw [show G + 3 - w.length + 3 + w.length = G + 6 from by omega, hw1, show ((0 : Nat) : Int) = 0 from rfl] at hl2
          rw [hl2]
          by_cases ha16 : allD 16 w = true
          · rw [if_pos ha16, if_pos ⟨h0, h4, ha16⟩]
            have ih := runs_l1 e ws M hM hn hws r (i + 1) (F + 5 - w.length) (acc ++ [valF 16 0 w]) hd2 hil (by rw [List.length_append, List.length_singleton]; omega)
            rw [show F + 5 - w.length + 10 * r.length + M + 60 = G + 3 - w.length + 2 from by omega] at ih
            rw [ih]
            cases pcsF e r with
            | none => rfl
            | some q =>
              show some (cast (acc ++ [valF 16 0 w] ++ q), true) = some (cast (acc ++ (val 16 w :: q)), true)
              rw [List.append_assoc]
              rfl
          · rw [if_neg ha16, if_neg (fun h => ha16 h.2.2)]
            rfl
        · rw [if_pos (by rw [decide_eq_true_eq]; omega), if_neg (fun h => h4 h.2.1)]
          rfl
    rw [hfu]
    unfold bastionref07_runs.l1
    rw [if_pos (by omega), if_pos (by omega), hml, if_pos (by omega), hrd, hw]
    unfold pcsF
    have hj2f : bastionref07_runs.j2 (G + 9) e (ws.map B) (cast acc) (B w) (ws.map B) (ws.length : Int) (i : Int) false = some (resP acc (match pieceL w, pcsF e r with | some n, some l => some (n :: l) | _, _ => none)) := by
      rw [show G + 9 = (G + 8) + 1 from rfl, bastionref07_runs.j2, if_neg (by decide), show G + 8 = (G + 7) + 1 from rfl]
      exact hj3 _ rfl
    by_cases hlast : e = true ∧ r = []
    · have hi1 : ((i : Int) == ((ws.length - 1 : Nat) : Int)) = true := by
        rw [beq_iff_eq]
        have := hrl
        rw [hlast.2] at this
        simp at this
        omega
      rw [if_pos hlast.1, hi1, if_pos ⟨hlast.1, by rw [hlast.2]; rfl⟩, show G + 9 = (G + 8) + 1 from rfl, bastionref07_runs.j2, if_pos rfl, strict_F w (by omega) (G + 8) (by omega), Option.bind_some]
      cases hdl : dotL w with
      | none =>
        rw [show G + 8 = (G + 7) + 1 from rfl]
        exact hj3 _ rfl
      | some ab =>
        obtain ⟨a, b⟩ := ab
        obtain ⟨ha16, hb16⟩ := dot_lt hdl
        have hm1 : Int.tdiv ((a * 65536 + b : Nat) : Int) 65536 = (a : Int) := by rw [Int.tdiv_eq_ediv_of_nonneg (by omega)]; omega
        have hm2 : Int.tmod ((a * 65536 + b : Nat) : Int) 65536 = (b : Int) := by rw [Int.tmod_eq_emod_of_nonneg (by omega)]; omega
        have hua : IntKind.u64.wrap (a : Int) = (a : Int) := by rw [IntKind.wrap_u64]; omega
        rw [show res2' (Option.map (fun x : Nat × Nat => x.1 * 65536 + x.2) (some (a, b))) = (((a * 65536 + b : Nat) : Int), true) from rfl]
        rw [if_pos (show ((((a * 65536 + b : Nat) : Int), true) : Int × Bool).2 = true from rfl), show ((((a * 65536 + b : Nat) : Int), true) : Int × Bool).1 = ((a * 65536 + b : Nat) : Int) from rfl, hm1, hm2, hua, u16_nat ha16, u16_nat hb16, Option.bind_some, if_pos (by rw [hcl]; simp; omega), hw1]
        have ih := runs_l1 e ws M hM hn hws r (i + 1) (F + 8) (acc ++ [a, b]) hd2 hil (by rw [List.length_append]; simp; omega)
        rw [show F + 8 + 10 * r.length + M + 60 = G + 8 from by omega] at ih
        rw [show cast acc ++ [(a : Int), (b : Int)] = cast (acc ++ [a, b]) from by unfold cast; rw [List.map_append]; rfl]
        refine ih.trans ?_
        rw [hlast.2]
        unfold pcsF
        show some (cast (acc ++ [a, b] ++ []), true) = some (cast (acc ++ [a, b]), true)
        rw [List.append_nil]
    · rw [if_neg (show ¬ ((e = true) ∧ (r.isEmpty = true)) from fun h => hlast ⟨h.1, List.isEmpty_iff.1 h.2⟩)]
      cases e with
      | true =>
        have hi1 : ((i : Int) == ((ws.length - 1 : Nat) : Int)) = false := by
          rw [beq_eq_false_iff_ne]
          have : 1 ≤ r.length := List.length_pos_iff.2 (fun h => hlast ⟨rfl, h⟩)
          omega
        rw [if_pos rfl, hi1]
        exact hj2f
      | false =>
        rw [if_neg (by decide)]
        exact hj2f
theorem runs_l0 (e : Bool) (l : List UInt8) (hl : l.length ≤ 1000000000) : ∀ (r : List UInt8) (i k : Nat) (ps : List (List UInt8)) (p : List UInt8), l.drop i = r → i ≤ l.length → parts 58 (l.take i) = ps ++ [p] → bastionref07_runs.l0 (k + r.length + 11 * l.length + 80) (B l) e ((ps ++ [p]).map B) (i : Int) = some (resP [] (pcsF e (parts 58 l)))
  | [], i, k, ps, p, h, hi, hp => by
    have hlen : l.length ≤ i := by
      have := congrArg List.length h
      rw [List.length_drop] at this
      simp at this
      omega
    rw [List.take_of_length_le hlen] at hp
    obtain ⟨z1, z2⟩ := parts_size 58 l
    have hx : ((ps ++ [p]).map B).length = (ps ++ [p]).length := List.length_map _
    rw [show k + ([] : List UInt8).length + 11 * l.length + 80 = (k + 11 * l.length + 79) + 1 from rfl]
    unfold bastionref07_runs.l0
    rw [hp] at z1 z2 ⊢
    rw [B_size, if_neg (by omega), hx]
    have := runs_l1 e (ps ++ [p]) l.length hl (by omega) z2 (ps ++ [p]) 0 (k + 10 * l.length + 19 - 10 * (ps ++ [p]).length) [] rfl (Nat.zero_le _) (Nat.zero_le _)
    rw [show k + 10 * l.length + 19 - 10 * (ps ++ [p]).length + 10 * (ps ++ [p]).length + l.length + 60 = k + 11 * l.length + 79 from by omega] at this
    exact this
  | c :: r, i, k, ps, p, h, hi, hp => by
    obtain ⟨hil, hbt, hr, _⟩ := bt_drop l i c r h
    obtain ⟨n1, n2, n3⟩ := words_next 58 l i c r h ps p hp
    obtain ⟨s1, s2, s3, s4, s5⟩ := words_set l hl i c r h ps p (by omega)
    rw [show k + (c :: r).length + 11 * l.length + 80 = (k + r.length + 11 * l.length + 80) + 1 from by rw [List.length_cons]; omega]
    have hx : ((ps ++ [p]).map B).length = ps.length + 1 := by simp
    have h58 : ((c.toNat : Int) = 58) ↔ c = 58 := ⟨fun h => UInt8.toNat_inj.1 (by show c.toNat = 58; omega), fun h => by rw [h]; rfl⟩
    unfold bastionref07_runs.l0
    rw [B_size, if_pos (by omega), if_pos (by omega), hbt]
    by_cases hc : c = 58
    · rw [if_pos hc] at n3
      have := runs_l0 e l hl r (i + 1) k (ps ++ [p]) [] hr hil n3
      rw [if_pos (h58.2 hc), if_pos (by rw [hx]; omega), s5]
      rw [List.map_append] at this
      exact this
    · rw [if_neg hc] at n3
      have := runs_l0 e l hl r (i + 1) k ps (p ++ [c]) hr hil n3
      rw [if_neg (fun h => hc (h58.1 h)), s1, s2, s3, s4, if_pos (by omega), if_pos (by rw [hx]; omega), s5, if_pos (by omega), if_pos (by omega), if_pos (by rw [B_size, B_size]; simp; omega)]
      exact this
theorem runs_F (e : Bool) (l : List UInt8) (hl : l.length ≤ 1000000000) (K : Nat) (hK : 12 * l.length + 80 ≤ K) : bastionref07_runs.f K (B l) e = some (resP [] (pcsL e l)) := by
  unfold bastionref07_runs.f pcsL
  rw [B_toList]
  by_cases h0 : l = []
  · rw [if_pos h0, if_pos h0]; rfl
  · rw [if_neg h0, if_neg h0]
    have := runs_l0 e l hl l 0 (K - 12 * l.length - 80) [] [] rfl (Nat.zero_le _) rfl
    rw [show K - 12 * l.length - 80 + l.length + 11 * l.length + 80 = K from by omega] at this
    exact this
theorem v9_of (a : List Nat) : v9 (cast a) = (v6n (some a) 0, v6n (some a) 1, v6n (some a) 2, v6n (some a) 3, v6n (some a) 4, v6n (some a) 5, v6n (some a) 6, v6n (some a) 7, v6e (some a)) := by
  have h : ∀ i : Nat, (cast a).getD i 0 = v6n (some a) i := fun i => by
    unfold cast v6n
    rw [List.getD_eq_getElem?_getD, List.getElem?_map]
    show _ = ((a.getD i 0 : Nat) : Int)
    rw [List.getD_eq_getElem?_getD]
    cases a[i]? <;> rfl
  unfold v9
  rw [h, h, h, h, h, h, h, h]
  rfl
theorem v9e_of : v9e = (v6n none 0, v6n none 1, v6n none 2, v6n none 3, v6n none 4, v6n none 5, v6n none 6, v6n none 7, v6e none) := rfl
theorem refV6_f (l : List UInt8) (hl : l.length ≤ 1000000000) (K : Nat) (hK : 12 * l.length + 80 ≤ K) : bastionref07_V6.f K (B l) = some (v6n (v6L l) 0, v6n (v6L l) 1, v6n (v6L l) 2, v6n (v6L l) 3, v6n (v6L l) 4, v6n (v6L l) 5, v6n (v6L l) 6, v6n (v6L l) 7, v6e (v6L l)) := by
  have hext : ∀ j m : Nat, (B l).extract j m = B ((l.drop j).take (m - j)) := fun j m => by
    rw [← B_of ((B l).extract j m), Lib.extract_data, B_data]
  unfold bastionref07_V6.f
  rw [if_pos (by rw [B_size]; exact hl), B_data]
  by_cases hix : Lib.index l [58, 58] = -1
  · rw [if_pos hix, runs_F true l hl K hK, Option.bind_some]
    have hv : v6L l = match pcsL true l with | some a => if a.length = 8 then some a else none | none => none := by
      have hcut : Lib.cut l [58, 58] = (l, [], false) := by unfold Lib.cut; rw [if_neg (by omega)]
      unfold v6L
      rw [hcut]
      rfl
    rw [hv]
    cases pcsL true l with
    | none => exact congrArg some (if_neg (fun h => absurd h.1 (by decide)))
    | some a =>
      have hl1 : (cast a).length = a.length := List.length_map _
      show some (if true = true ∧ (cast a).length = 8 then v9 (cast a) else v9e) = _
      by_cases h8 : a.length = 8
      · rw [if_pos ⟨rfl, by rw [hl1]; exact h8⟩, v9_of]
        dsimp only
        rw [if_pos h8]
      · rw [if_neg (fun h => h8 (by rw [← hl1]; exact h.2)), v9e_of]
        dsimp only
        rw [if_neg h8]
  · have hge := Lib.index_ge l [58, 58]
    have hv : v6L l = match pcsL false (l.take (Lib.index l [58, 58]).toNat), pcsL true (l.drop ((Lib.index l [58, 58]).toNat + 2)) with | some a, some b => if a.length + b.length ≤ 7 then some (a ++ List.replicate (8 - a.length - b.length) 0 ++ b) else none | _, _ => none := by
      have hcut : Lib.cut l [58, 58] = (l.take (Lib.index l [58, 58]).toNat, l.drop ((Lib.index l [58, 58]).toNat + 2), true) := by unfold Lib.cut; rw [if_pos (by omega)]; rfl
      unfold v6L
      rw [hcut]
      rfl
    rw [if_neg hix, hv]
    generalize (Lib.index l [58, 58]).toNat = z
    have e1 : (B l).extract 0 z = B (l.take z) := (hext 0 z).trans (by rw [Nat.sub_zero, List.drop_zero])
    have e2 : (B l).extract (z + 2) (B l).size = B (l.drop (z + 2)) := (hext _ _).trans (by rw [B_size, List.take_of_length_le (by rw [List.length_drop]; omega)])
    rw [e1, e2, runs_F false (l.take z) (by rw [List.length_take]; omega) K (by rw [List.length_take]; omega), Option.bind_some, runs_F true (l.drop (z + 2)) (by rw [List.length_drop]; omega) K (by rw [List.length_drop]; omega), Option.bind_some]
    have len : ∀ (e : Bool) (m : List UInt8), m.length ≤ 1000000000 → (resP [] (pcsL e m)).1.length ≤ 1000000002 := fun e m hm => by
      cases h : pcsL e m with
      | none => exact Nat.zero_le _
      | some a =>
        have := pcsL_len h
        show (cast ([] ++ a)).length ≤ _
        unfold cast
        rw [List.length_map, List.nil_append]
        omega
    have b1 := len false (l.take z) (by rw [List.length_take]; omega)
    have b2 := len true (l.drop (z + 2)) (by rw [List.length_drop]; omega)
    rw [if_pos (by omega)]
    cases pcsL false (l.take z) with
    | none => exact congrArg some (if_neg (fun h => absurd h.1 (by decide)))
    | some a =>
      cases pcsL true (l.drop (z + 2)) with
      | none => exact congrArg some (if_neg (fun h => absurd h.2.1 (by decide)))
      | some b =>
        have hl1 : (cast a).length = a.length := List.length_map _
        have hl2 : (cast b).length = b.length := List.length_map _
        show some (if true = true ∧ true = true ∧ (cast a).length + (cast b).length ≤ 7 then v9 (cast a ++ List.replicate (8 - (cast a).length - (cast b).length) 0 ++ cast b) else v9e) = _
        dsimp only
        by_cases h7 : a.length + b.length ≤ 7
        · have hc : cast a ++ List.replicate (8 - (cast a).length - (cast b).length) 0 ++ cast b = cast (a ++ List.replicate (8 - a.length - b.length) 0 ++ b) := by
            rw [hl1, hl2]
            unfold cast
            rw [List.map_append, List.map_append, List.map_replicate]
            rfl
          rw [if_pos ⟨rfl, rfl, by rw [hl1, hl2]; exact h7⟩, if_pos h7, hc, v9_of]
        · rw [if_neg (fun h => h7 (by rw [← hl1, ← hl2]; exact h.2.2)), if_neg h7, v9e_of]
end Go.Proofs.YtkabhnbjjnjdhaaDoor.Q
