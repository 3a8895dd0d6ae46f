/- Syllables, plain: over a table without anything what is put together is taken apart as what it was. -/
import Derived.Test.YtmjnipifpeehgaaDoorSNLiv
import Derived.Test.YtmjnipifpeehgaaDoorSB4
set_option linter.unusedSimpArgs false
set_option linter.unusedVariables false
namespace Go.Proofs.YtmjnipifpeehgaaDoor.Q
open Go.RowKit Go.Proofs.YtmjnipifpeehgaaDoorW.PrintWords Go.Proofs.YtmjnipifpeehgaaDoorW.PrintLast Go.Proofs.YtmjnipifpeehgaaDoorW.PrintMore
theorem w32_small {x : Int} (h0 : -2147483648 ≤ x) (h1 : x ≤ 2147483647) : wrap32 x = x := by unfold wrap32; omega
def i32 (x : Int) : Prop := -2147483648 ≤ x ∧ x ≤ 2147483647
theorem isSyl_iff (r : Int) (h : i32 r) : isSyl r = true ↔ 44032 ≤ r ∧ r < 55204 := by
  unfold isSyl sylS wrap32
  unfold i32 at h
  simp only [Bool.and_eq_true, decide_eq_true_eq]
  omega
theorem sylS_eq (r : Int) (h0 : 44032 ≤ r) (h1 : r < 55204) : sylS r = r - 44032 := by unfold sylS; exact w32_small (by omega) (by omega)
theorem dec0 (r : Int) (f : Nat) : dec [] (f + 1) r = if isSyl r then sylL (sylS r) else [r] := by
  rw [dec]; rfl
theorem decAll0 (l : List Int) : decAll [] l = l.flatMap fun r => if isSyl r then sylL (sylS r) else [r] := by
  exact congrArg (fun f => l.flatMap f) (funext fun r => dec0 r r.toNat)
theorem decAll0_snoc (l : List Int) (r : Int) : decAll [] (l ++ [r]) = decAll [] l ++ (if isSyl r then sylL (sylS r) else [r]) := by rw [decAll0, decAll0]; simp
/-- what two are together, over nothing -/
def both0 (a b : Int) : Int × Bool := bothR [] [] [] [] [] a b
theorem put0 (a b : Int) : tables_Put.f ([] : List Sp) ([] : List Cl) ([] : List Pa) ([] : List Wa) ([] : List Jo) a b = some (0, false) := by
  unfold tables_Put.f putOf
  rw [if_pos (by decide)]
  by_cases h : b = 0
  · rw [if_pos h]; rfl
  · rw [if_neg h]; rfl
theorem both0_eq (a b : Int) (ha : i32 a) (hb : i32 b) : both0 a b = if 4352 ≤ a ∧ a < 4371 ∧ 4449 ≤ b ∧ b < 4470 then (44032 + ((a - 4352) * 21 + (b - 4449)) * 28, true) else if (44032 ≤ a ∧ a < 55204 ∧ (a - 44032) % 28 = 0) ∧ 4519 < b ∧ b < 4547 then (a + (b - 4519), true) else (0, false) := by
  unfold both0 bothR
  have hs : ∀ x : Int, i32 x → nfc_syllable.f x = some (sylS x, isSyl x) := fun x _ => syl_f x
  have hA : (wrap32 (a - 4352) ≥ 0 ∧ wrap32 (a - 4352) < 19) ↔ (4352 ≤ a ∧ a < 4371) := by unfold wrap32; unfold i32 at ha; omega
  have hB : (wrap32 (b - 4449) ≥ 0 ∧ wrap32 (b - 4449) < 21) ↔ (4449 ≤ b ∧ b < 4470) := by unfold wrap32; unfold i32 at hb; omega
  have hT : (wrap32 (b - 4519) > 0 ∧ wrap32 (b - 4519) < 28) ↔ (4519 < b ∧ b < 4547) := by unfold wrap32; unfold i32 at hb; omega
  -- the second part
  have hj : ∀ x8 x9, nfc_both.j0 1 a b x8 x9 false ([] : List Sp) ([] : List Cl) ([] : List Pa) ([] : List Wa) ([] : List Jo) = some (if (44032 ≤ a ∧ a < 55204 ∧ (a - 44032) % 28 = 0) ∧ 4519 < b ∧ b < 4547 then (a + (b - 4519), true) else (0, false)) := by
    intro x8 x9
    rw [nfc_both.j0, if_neg (by decide), syl_f, Option.bind_some]
    simp only [put0, Option.bind_some]
    by_cases hy : isSyl a = true
    · have hr := (isSyl_iff a ha).1 hy
      rw [if_pos hy, sylS_eq a hr.1 hr.2]
      have hm : Int.tmod (a - 44032) 28 = (a - 44032) % 28 := Int.tmod_eq_emod_of_nonneg (by omega)
      rw [hm]
      by_cases h28 : (a - 44032) % 28 = 0
      · rw [if_pos h28]
        by_cases ht : 4519 < b ∧ b < 4547
        · have := hT.2 ht
          rw [if_pos this.1, if_pos this.2, if_pos ⟨⟨hr.1, hr.2, h28⟩, ht⟩]
          have e1 : wrap32 (b - 4519) = b - 4519 := w32_small (by omega) (by omega)
          rw [e1, w32_small (by omega) (by omega)]
        · rw [if_neg (show ¬ ((44032 ≤ a ∧ a < 55204 ∧ (a - 44032) % 28 = 0) ∧ 4519 < b ∧ b < 4547) from fun h => ht h.2)]
          by_cases h1 : wrap32 (b - 4519) > 0
          · rw [if_pos h1, if_neg (show ¬ wrap32 (b - 4519) < 28 from fun h2 => ht (hT.1 ⟨h1, h2⟩))]
          · rw [if_neg h1]
      · rw [if_neg h28, if_neg (show ¬ ((44032 ≤ a ∧ a < 55204 ∧ (a - 44032) % 28 = 0) ∧ 4519 < b ∧ b < 4547) from fun h => h28 h.1.2.2)]
    · rw [if_neg hy, if_neg (show ¬ ((44032 ≤ a ∧ a < 55204 ∧ (a - 44032) % 28 = 0) ∧ 4519 < b ∧ b < 4547) from fun h => hy ((isSyl_iff a ha).2 ⟨h.1.1, h.1.2.1⟩))]
  unfold nfc_both.f
  by_cases hl : 4352 ≤ a ∧ a < 4371
  · have h1 := hA.2 hl
    rw [if_pos h1.1, if_pos h1.2]
    have ea : wrap32 (a - 4352) = a - 4352 := w32_small (by omega) (by omega)
    by_cases hv : 4449 ≤ b ∧ b < 4470
    · have h2 := hB.2 hv
      have eb : wrap32 (b - 4449) = b - 4449 := w32_small (by omega) (by omega)
      rw [if_pos h2.1, decide_eq_true h2.2, nfc_both.j0, if_pos rfl, if_pos ⟨hl.1, hl.2, hv.1, hv.2⟩, ea, eb]
      have m1 : wrap32 ((a - 4352) * 21) = (a - 4352) * 21 := w32_small (by omega) (by omega)
      rw [m1, w32_small (x := (a - 4352) * 21 + (b - 4449)) (by omega) (by omega), w32_small (x := ((a - 4352) * 21 + (b - 4449)) * 28) (by omega) (by omega), w32_small (by omega) (by omega)]
      rfl
    · rw [if_neg (show ¬ (4352 ≤ a ∧ a < 4371 ∧ 4449 ≤ b ∧ b < 4470) from fun h => hv ⟨h.2.2.1, h.2.2.2⟩)]
      by_cases h2 : wrap32 (b - 4449) ≥ 0
      · rw [if_pos h2, decide_eq_false (fun h3 => hv (hB.1 ⟨h2, h3⟩)), hj]; rfl
      · rw [if_neg h2, hj]; rfl
  · rw [if_neg (show ¬ (4352 ≤ a ∧ a < 4371 ∧ 4449 ≤ b ∧ b < 4470) from fun h => hl ⟨h.1, h.2.1⟩)]
    by_cases h1 : wrap32 (a - 4352) ≥ 0
    · rw [if_pos h1, if_neg (show ¬ wrap32 (a - 4352) < 19 from fun h2 => hl (hA.1 ⟨h1, h2⟩)), hj]; rfl
    · rw [if_neg h1, hj]; rfl
theorem cls0 (x : Int) : clsOf [] x = 0 := rfl
/-- what has been put together, and what was read -/
def HanI (st : List Int × Int × Int) (X : List Int) : Prop := decAll [] st.1 = X ∧ st.2.1 = (st.1.length : Int) - 1 ∧ st.2.2 = 0 ∧ ∀ x ∈ st.1, i32 x
theorem han_step (st : List Int × Int × Int) (X : List Int) (r : Int) (h : HanI st X) (hr : i32 r) (hn : isSyl r = false) : HanI (togStep (clsOf []) (bothR [] [] [] [] []) st r) (X ++ [r]) := by
  obtain ⟨out, x6, x7⟩ := st
  obtain ⟨h1, h2, h3, h4⟩ := h
  simp only at h1 h2 h3 h4
  subst h3
  have hpush : HanI (pushS out x6 r 0) (X ++ [r]) := by
    unfold pushS
    refine ⟨?_, ?_, rfl, fun x hx => ?_⟩
    · rw [decAll0_snoc, h1, if_neg (by rw [hn]; decide)]
    · simp
    · rcases List.mem_append.1 hx with hx | hx
      · exact h4 x hx
      · rw [List.mem_singleton.1 hx]; exact hr
  unfold togStep
  simp only [cls0]
  rcases List.eq_nil_or_concat out with rfl | ⟨o, s, rfl⟩
  · have hx : x6 = -1 := by simpa using h2
    subst hx
    have e1 : nearS [] (-1) = false := by decide
    rw [e1]
    have e2 : goes (-1) 0 0 false = false := by decide
    rw [e2]
    unfold tog2
    rw [if_neg (by decide)]
    exact hpush
  · rw [List.concat_eq_append] at *
    have hx : x6 = (o.length : Int) := by rw [h2]; simp
    subst hx
    have e1 : nearS (o ++ [s]) (o.length : Int) = true := by unfold nearS; simp
    rw [e1]
    have e2 : goes (o.length : Int) 0 0 true = true := by unfold goes; simp
    rw [e2]
    have erd : rd (o ++ [s]) (o.length : Int) = s := by simp [rd]
    have hs := h4 s (by simp)
    unfold tog2
    rw [if_pos rfl, erd]
    have hb := both0_eq s r hs hr
    unfold both0 at hb
    have hset : ∀ y, (o ++ [s]).set ((o.length : Int)).toNat y = o ++ [y] := fun y => by simp
    have done : ∀ y, bothR [] [] [] [] [] s r = (y, true) → i32 y → (if isSyl y then sylL (sylS y) else [y]) = (if isSyl s then sylL (sylS s) else [s]) ++ [r] → HanI (if (bothR [] [] [] [] [] s r).2 = true then ((o ++ [s]).set ((o.length : Int)).toNat (bothR [] [] [] [] [] s r).1, (o.length : Int), if true = true then (0 : Int) else 0) else pushS (o ++ [s]) (o.length : Int) r 0) (X ++ [r]) := by
      intro y hy hyi hd
      rw [hy, if_pos rfl, hset]
      refine ⟨?_, by simp, rfl, fun x hx => ?_⟩
      · rw [decAll0_snoc] at h1 ⊢
        rw [← h1, hd, List.append_assoc]
      · rcases List.mem_append.1 hx with hx | hx
        · exact h4 x (by simp [hx])
        · rw [List.mem_singleton.1 hx]; exact hyi
    by_cases c1 : 4352 ≤ s ∧ s < 4371 ∧ 4449 ≤ r ∧ r < 4470
    · rw [if_pos c1] at hb
      refine done _ hb ⟨by omega, by omega⟩ ?_
      have hy : isSyl (44032 + ((s - 4352) * 21 + (r - 4449)) * 28) = true := (isSyl_iff _ ⟨by omega, by omega⟩).2 ⟨by omega, by omega⟩
      have hns : isSyl s = false := by
        cases h : isSyl s with
        | false => rfl
        | true => have := (isSyl_iff s hs).1 h; omega
      rw [if_pos hy, hns, if_neg (by decide), sylS_eq _ (by omega) (by omega)]
      unfold sylL
      rw [if_pos (by omega)]
      show [_, _] ++ [] = [s] ++ [r]
      have e1 : 4352 + (44032 + ((s - 4352) * 21 + (r - 4449)) * 28 - 44032) / 588 = s := by omega
      have e2 : 4449 + (44032 + ((s - 4352) * 21 + (r - 4449)) * 28 - 44032) % 588 / 28 = r := by omega
      rw [e1, e2]; rfl
    · rw [if_neg c1] at hb
      by_cases c2 : (44032 ≤ s ∧ s < 55204 ∧ (s - 44032) % 28 = 0) ∧ 4519 < r ∧ r < 4547
      · rw [if_pos c2] at hb
        refine done _ hb ⟨by omega, by omega⟩ ?_
        have hy : isSyl (s + (r - 4519)) = true := (isSyl_iff _ ⟨by omega, by omega⟩).2 ⟨by omega, by omega⟩
        have hys : isSyl s = true := (isSyl_iff _ hs).2 ⟨by omega, by omega⟩
        rw [if_pos hy, if_pos hys, sylS_eq _ (by omega) (by omega), sylS_eq s c2.1.1 c2.1.2.1]
        unfold sylL
        rw [if_neg (by omega), if_pos c2.1.2.2]
        have e1 : (s + (r - 4519) - 44032) / 588 = (s - 44032) / 588 := by omega
        have e2 : (s + (r - 4519) - 44032) % 588 / 28 = (s - 44032) % 588 / 28 := by omega
        have e3 : 4519 + (s + (r - 4519) - 44032) % 28 = r := by omega
        rw [e1, e2, e3, List.append_nil]
      · rw [if_neg c2] at hb
        rw [hb, if_neg (by decide)]
        exact hpush
theorem han_fold : ∀ (l : List Int) (st : List Int × Int × Int) (X : List Int), HanI st X → (∀ r ∈ l, i32 r ∧ isSyl r = false) → HanI (l.foldl (togStep (clsOf []) (bothR [] [] [] [] [])) st) (X ++ l)
  | [], st, X, h, _ => by rw [List.append_nil]; exact h
  | r :: l, st, X, h, hl => by
    rw [List.foldl_cons]
    have h1 := hl r List.mem_cons_self
    have := han_fold l _ (X ++ [r]) (han_step st X r h h1.1 h1.2) (fun x hx => hl x (List.mem_cons_of_mem _ hx))
    rw [List.append_assoc] at this
    exact this
abbrev tog0 (X : List Int) : List Int := togL (clsOf []) (bothR [] [] [] [] []) X
theorem dec_tog (X : List Int) (h : ∀ r ∈ X, i32 r ∧ isSyl r = false) : decAll [] (tog0 X) = X ∧ ∀ x ∈ tog0 X, i32 x := by
  have := han_fold X ([], -1, 0) [] ⟨rfl, rfl, rfl, fun x hx => by cases hx⟩ h
  exact ⟨this.1, this.2.2.2⟩
theorem sylL_no (s : Int) (h0 : 0 ≤ s) (h1 : s < 11172) : ∀ r ∈ sylL s, i32 r ∧ isSyl r = false := by
  have key : ∀ r : Int, 0 ≤ r → r < 44032 → i32 r ∧ isSyl r = false := fun r a b => ⟨⟨by omega, by omega⟩, syl_no r a b⟩
  intro r hr
  unfold sylL at hr
  rcases List.mem_append.1 hr with hr | hr
  · simp only [List.mem_cons, List.not_mem_nil, or_false] at hr
    rcases hr with rfl | rfl
    · exact key _ (by omega) (by omega)
    · exact key _ (by omega) (by omega)
  · split at hr
    · cases hr
    · rw [List.mem_singleton.1 hr]; exact key _ (by omega) (by omega)
theorem dec_no (l : List Int) (h : ∀ x ∈ l, i32 x) : ∀ r ∈ decAll [] l, i32 r ∧ isSyl r = false := by
  intro r hr
  rw [decAll0] at hr
  obtain ⟨x, hx, hr⟩ := List.mem_flatMap.1 hr
  cases hy : isSyl x with
  | false =>
    rw [hy, if_neg (by decide)] at hr
    rw [List.mem_singleton.1 hr]
    exact ⟨h x hx, hy⟩
  | true =>
    rw [hy, if_pos rfl] at hr
    have hr2 := (isSyl_iff x (h x hx)).1 hy
    exact sylL_no _ (by rw [sylS_eq x hr2.1 hr2.2]; omega) (by rw [sylS_eq x hr2.1 hr2.2]; omega) r hr
open St in
theorem ord0 : ∀ l : List Int, I.ordL [] l = l
  | [] => rfl
  | x :: l => by
    have ih := ord0 l
    unfold I.ordL at ih ⊢
    rw [segGo, if_pos (show I.clsN [] x = 0 from rfl), ih]
    rfl
end Go.Proofs.YtmjnipifpeehgaaDoor.Q
