/- NfcHangul, plain: a syllable is taken apart into two or three, which together are it; each text's form is its own form. -/
import Derived.Test.YtmjnipifpeehgaaDoorSNHan
import Derived.Test.YtmjnipifpeehgaaDoorSQNfcHangul
set_option linter.unusedSimpArgs false
set_option linter.unusedVariables false
namespace Go.Proofs.YtmjnipifpeehgaaDoor.Q
open Go.RowKit Go.Proofs.YtmjnipifpeehgaaDoorW.PrintWords
theorem i32_of_wf {n : Int} (h : (Lit.int .i32 n).wf = true) : i32 n := by
  have : -2147483648 ≤ n ∧ n ≤ 2147483647 := by simpa [Lit.wf, IntKind.min, IntKind.max, IntKind.signed, IntKind.bits] using h
  exact this
theorem equal_loop (x y : List Int) (hxy : x.length = y.length) (hl : x.length ≤ 1099511627776) : ∀ (n i k : Nat), i + n = x.length → n + 1 ≤ k → slices_Equal_rune_rune.l0 k x y (x.length : Int) (i : Int) = some (x.drop i == y.drop i) := by
  intro n
  induction n with
  | zero =>
    intro i k hi hk
    obtain ⟨k, rfl⟩ : ∃ k', k = k' + 1 := ⟨k - 1, by omega⟩
    rw [slices_Equal_rune_rune.l0, if_neg (by omega), List.drop_of_length_le (by omega), List.drop_of_length_le (by omega)]
    rfl
  | succ n ih =>
    intro i k hi hk
    obtain ⟨k, rfl⟩ : ∃ k', k = k' + 1 := ⟨k - 1, by omega⟩
    have h1 : i < x.length := by omega
    have h2 : i < y.length := by omega
    have e1 : rd x (i : Int) = x[i] := by simp [rd, List.getD_eq_getElem?_getD, h1]
    have e2 : rd y (i : Int) = y[i] := by simp [rd, List.getD_eq_getElem?_getD, h2]
    have hn1 : i + 1 + n = x.length := by omega
    have hk1 : n + 1 ≤ k := by omega
    rw [slices_Equal_rune_rune.l0, if_pos (by omega), if_pos (by omega), if_pos (by omega), if_pos (by omega), e1, e2]
    have d1 : x.drop i = x[i] :: x.drop (i + 1) := List.drop_eq_getElem_cons h1
    have d2 : y.drop i = y[i] :: y.drop (i + 1) := List.drop_eq_getElem_cons h2
    by_cases e : x[i] = y[i]
    · have hw : wrap64 ((i : Int) + 1) = ((i + 1 : Nat) : Int) := by unfold wrap64; omega
      rw [if_pos e, hw, ih (i + 1) k hn1 hk1, d1, d2, List.cons_beq_cons, e]
      simp
    · rw [if_neg e, d1, d2, List.cons_beq_cons, beq_eq_false_iff_ne.2 e]
      rfl
theorem equal_some (x y : List Int) (hl : x.length ≤ 1099511627776) (k : Nat) (hk : x.length + 1 ≤ k) : slices_Equal_rune_rune.f k x y = some (x == y) := by
  unfold slices_Equal_rune_rune.f
  by_cases h : x.length = y.length
  · rw [if_pos (by omega)]
    have := equal_loop x y h hl x.length 0 k (by omega) hk
    rw [List.drop_zero, List.drop_zero] at this
    exact this
  · rw [if_neg (by omega)]
    have : (x == y) = false := by
      rw [beq_eq_false_iff_ne]
      exact fun e => h (by rw [e])
    rw [this]
abbrev apt0 (l : List Int) : List Int × Int := apt [] [] [] [] [] l
theorem apt0_eq (l : List Int) : apt0 l = if l.length ≤ 4096 then (if (decAll [] l).length ≤ 4096 then (decAll [] l, 0) else ([], 3)) else ([], 3) := by
  show (if chk [] [] [] [] [] = 0 then _ else _) = _
  rw [if_pos chk0]
theorem form0_some (l : List Int) (k : Nat) (hk : 12289 ≤ k) : nfc_Form.f k ([] : List Sp) ([] : List Cl) ([] : List Pa) ([] : List Wa) ([] : List Jo) l = some (if (apt0 l).2 = 0 then (tog0 (apt0 l).1, 0) else ([], (apt0 l).2)) := by
  rw [form_some [] [] [] [] [] (by decide) (by decide) (by decide) (by decide) l k hk, ord0]
theorem apart0_some (l : List Int) : nfc_Apart.f ([] : List Sp) ([] : List Cl) ([] : List Pa) ([] : List Wa) ([] : List Jo) l = some (apt0 l) := by
  unfold nfc_Apart.f
  rw [if_pos (by decide)]
/-- a form is its own form -/
theorem form_again (l : List Int) (hl : ∀ x ∈ l, i32 x) (h : (apt0 l).2 = 0) : apt0 (tog0 (apt0 l).1) = ((apt0 l).1, 0) ∧ (tog0 (apt0 l).1).length ≤ 4096 := by
  rw [apt0_eq] at h
  by_cases h1 : l.length ≤ 4096
  · rw [if_pos h1] at h
    by_cases h2 : (decAll [] l).length ≤ 4096
    · have e : apt0 l = (decAll [] l, 0) := by rw [apt0_eq, if_pos h1, if_pos h2]
      rw [e]
      obtain ⟨d1, d2⟩ := dec_tog (decAll [] l) (dec_no l hl)
      have h3 := togL_len (clsOf []) (bothR [] [] [] [] []) (decAll [] l)
      refine ⟨?_, Nat.le_trans h3 h2⟩
      rw [apt0_eq, if_pos (Nat.le_trans h3 h2)]
      show (if (decAll [] (tog0 (decAll [] l))).length ≤ 4096 then _ else _) = _
      rw [d1, if_pos h2]
    · rw [if_neg h2] at h; cases h
  · rw [if_neg h1] at h; cases h
theorem han_j2 (l : List Int) (hl : ∀ x ∈ l, i32 x) (k : Nat) (hk : 12289 ≤ k) : bastionlaw04_NfcHangul.j2 (k + 1) l = some true := by
  rw [bastionlaw04_NfcHangul.j2, form0_some l k hk, Option.bind_some]
  by_cases h : (apt0 l).2 = 0
  · obtain ⟨e1, e2⟩ := form_again l hl h
    rw [if_pos h, if_pos rfl]
    show ((nfc_Form.f k ([] : List Sp) ([] : List Cl) ([] : List Pa) ([] : List Wa) ([] : List Jo) (tog0 (apt0 l).1)).bind _) = _
    rw [form0_some _ k hk, e1, if_pos rfl, Option.bind_some]
    have his : nfc_Is.f k ([] : List Sp) ([] : List Cl) ([] : List Pa) ([] : List Wa) ([] : List Jo) (tog0 (apt0 l).1) = some (true, 0) := by
      unfold nfc_Is.f
      rw [form0_some _ k hk, e1, if_pos rfl, Option.bind_some, if_pos rfl, equal_some _ _ (by show (tog0 (apt0 l).1).length ≤ _; omega) k (by show (tog0 (apt0 l).1).length + 1 ≤ _; omega), Option.bind_some]
      simp
    show ((nfc_Is.f k ([] : List Sp) ([] : List Cl) ([] : List Pa) ([] : List Wa) ([] : List Jo) (tog0 (apt0 l).1)).bind _) = _
    rw [his, Option.bind_some, if_pos rfl]
    show ((bastionref02_Same.f k (tog0 (apt0 l).1) (tog0 (apt0 l).1)).bind _) = _
    rw [same_some _ _ (by omega) k (by omega), Option.bind_some, if_pos (by simp), if_pos rfl]
    rfl
  · rw [if_neg h]
    show (if (apt0 l).2 = 0 then _ else _) = _
    rw [if_neg h]
    rfl
theorem comp_step (s r y : Int) (hb : bothR [] [] [] [] [] s r = (y, true)) : togStep (clsOf []) (bothR [] [] [] [] []) ([s], 0, 0) r = ([y], 0, 0) := by
  unfold togStep
  have e1 : nearS [s] 0 = true := rfl
  have e2 : goes 0 0 (clsOf [] r) true = true := rfl
  simp only
  rw [e1, e2]
  unfold tog2
  have e3 : rd [s] 0 = s := rfl
  rw [if_pos rfl, e3, hb, if_pos rfl, if_pos rfl]
  rfl
theorem tog_syl (r : Int) (h0 : 44032 ≤ r) (h1 : r < 55204) : tog0 (sylL (r - 44032)) = [r] := by
  have b1 := both0_eq (4352 + (r - 44032) / 588) (4449 + (r - 44032) % 588 / 28) ⟨by omega, by omega⟩ ⟨by omega, by omega⟩
  rw [if_pos ⟨by omega, by omega, by omega, by omega⟩] at b1
  unfold both0 at b1
  have st1 : togStep (clsOf []) (bothR [] [] [] [] []) ([], -1, 0) (4352 + (r - 44032) / 588) = ([4352 + (r - 44032) / 588], 0, 0) := rfl
  have st2 := comp_step _ _ _ b1
  unfold tog0 togL sylL
  by_cases hz : (r - 44032) % 28 = 0
  · rw [if_pos hz]
    show (togStep (clsOf []) (bothR [] [] [] [] []) (togStep (clsOf []) (bothR [] [] [] [] []) ([], -1, 0) (4352 + (r - 44032) / 588)) (4449 + (r - 44032) % 588 / 28)).1 = [r]
    rw [st1, st2]
    show [_] = [r]
    congr 1
    omega
  · rw [if_neg hz]
    have b2 := both0_eq (44032 + ((4352 + (r - 44032) / 588 - 4352) * 21 + (4449 + (r - 44032) % 588 / 28 - 4449)) * 28) (4519 + (r - 44032) % 28) ⟨by omega, by omega⟩ ⟨by omega, by omega⟩
    rw [if_neg (by omega), if_pos ⟨⟨by omega, by omega, by omega⟩, by omega, by omega⟩] at b2
    unfold both0 at b2
    have st3 := comp_step _ _ _ b2
    show (togStep (clsOf []) (bothR [] [] [] [] []) (togStep (clsOf []) (bothR [] [] [] [] []) (togStep (clsOf []) (bothR [] [] [] [] []) ([], -1, 0) (4352 + (r - 44032) / 588)) (4449 + (r - 44032) % 588 / 28)) (4519 + (r - 44032) % 28)).1 = [r]
    rw [st1, st2, st3]
    show [_] = [r]
    congr 1
    omega
theorem hangul_pure (r : Int) (l : List Int) (hr : (Lit.int .i32 r).wf = true) (hw : ∀ n ∈ l, (Lit.int .i32 n).wf = true) (hs : l.length ≤ 1048576) : ∃ k, bastionlaw04_NfcHangul.f k r l = some true := by
  have hri := i32_of_wf hr
  have hl : ∀ x ∈ l, i32 x := fun x hx => i32_of_wf (hw x hx)
  have hd : decAll [] [r] = if isSyl r then sylL (sylS r) else [r] := by rw [decAll0]; simp
  have hlen0 : (if isSyl r then sylL (sylS r) else [r]).length ≤ 4096 := by
    split
    · unfold sylL; split <;> simp
    · simp
  have ha : apt0 [r] = ((if isSyl r then sylL (sylS r) else [r]), 0) := by rw [apt0_eq, if_pos (by simp), hd, if_pos hlen0]
  refine ⟨12292, ?_⟩
  unfold bastionlaw04_NfcHangul.f
  rw [lives_some _ (by omega), Option.bind_some, if_pos rfl, apart0_some, Option.bind_some, ha, if_pos rfl]
  cases hy : isSyl r with
  | true =>
    have hrr := (isSyl_iff r hri).1 hy
    rw [if_pos rfl, sylS_eq r hrr.1 hrr.2]
    have hlen : (sylL (r - 44032)).length = 2 ∨ (sylL (r - 44032)).length = 3 := by
      unfold sylL
      split
      · exact .inl rfl
      · exact .inr rfl
    show bastionlaw04_NfcHangul.j0 (12291 + 1) r l (sylL (r - 44032)) (((sylL (r - 44032)).length : Int) == 0) = _
    rw [bastionlaw04_NfcHangul.j0, if_neg (by rw [beq_iff_eq]; omega), if_pos hrr.1]
    show bastionlaw04_NfcHangul.j1 (12290 + 1) r l (sylL (r - 44032)) _ = _
    rw [bastionlaw04_NfcHangul.j1, if_pos (decide_eq_true (by omega)), if_neg (by omega), if_neg (by omega)]
    rw [together_some [] [] [] [] [] (by decide) (by decide) _ (by omega) 12290 (by omega), Option.bind_some]
    show ((bastionref02_Same.f 12290 (tog0 (sylL (r - 44032))) [r]).bind _) = _
    rw [tog_syl r hrr.1 hrr.2, same_some _ _ (by simp) 12290 (by simp), Option.bind_some, if_pos (by simp)]
    exact han_j2 l hl 12289 (by omega)
  | false =>
    have hrr : ¬ (44032 ≤ r ∧ r < 55204) := fun h => by have := (isSyl_iff r hri).2 h; rw [hy] at this; cases this
    rw [if_neg (by decide)]
    show bastionlaw04_NfcHangul.j0 (12291 + 1) r l [r] (((1 : Nat) : Int) == 0) = _
    rw [bastionlaw04_NfcHangul.j0, if_neg (by decide)]
    have key : bastionlaw04_NfcHangul.j1 (12290 + 1) r l [r] false = some true := by
      rw [bastionlaw04_NfcHangul.j1, if_neg (by decide), same_some _ _ (by simp) 12290 (by simp), Option.bind_some, if_pos (by simp)]
      exact han_j2 l hl 12289 (by omega)
    by_cases h1 : r ≥ 44032
    · rw [if_pos h1, decide_eq_false (show ¬ r ≤ 55203 from fun h => hrr ⟨h1, by omega⟩)]
      exact key
    · rw [if_neg h1]
      exact key
end Go.Proofs.YtmjnipifpeehgaaDoor.Q
