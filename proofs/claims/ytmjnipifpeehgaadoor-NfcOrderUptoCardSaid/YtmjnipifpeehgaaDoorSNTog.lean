/- nfc.Together, plain: runes put together one by one. -/
import Derived.Test.YtmjnipifpeehgaaDoorSQnfc1
import Derived.Test.YtmjnipifpeehgaaDoorSNTab
set_option linter.unusedSimpArgs false
set_option linter.unusedVariables false
set_option linter.unusedSectionVars false
namespace Go.Proofs.YtmjnipifpeehgaaDoor.Q
open Go.RowKit Go.Proofs.YtmjnipifpeehgaaDoorW.PrintWords Go.Proofs.YtmjnipifpeehgaaDoorW.PrintLast Go.Proofs.YtmjnipifpeehgaaDoorW.PrintMore
abbrev Sp := S71
abbrev Cl := S43
abbrev Pa := S45
abbrev Wa := S85
abbrev Jo := S91
def pushS (out : List Int) (x6 r c : Int) : List Int × Int × Int := (out ++ [r], if c = 0 then (out.length : Int) else x6, c)
def tog2 (cl : Int → Int) (bo : Int → Int → Int × Bool) (out : List Int) (x6 x7 r c : Int) (near go : Bool) : List Int × Int × Int :=
  if go = true then (if (bo (rd out x6) r).2 = true then (out.set x6.toNat (bo (rd out x6) r).1, x6, if near = true then cl (bo (rd out x6) r).1 else x7) else pushS out x6 r c) else pushS out x6 r c
def goes (x6 x7 c : Int) (near : Bool) : Bool := near || (decide (0 ≤ x6) && (!(x7 == 0) && decide (x7 < c)))
def nearS (out : List Int) (x6 : Int) : Bool := decide (0 ≤ x6) && (x6 == (out.length : Int) - 1)
def togStep (cl : Int → Int) (bo : Int → Int → Int × Bool) (st : List Int × Int × Int) (r : Int) : List Int × Int × Int :=
  tog2 cl bo st.1 st.2.1 st.2.2 r (cl r) (nearS st.1 st.2.1) (goes st.2.1 st.2.2 (cl r) (nearS st.1 st.2.1))
def togL (cl : Int → Int) (bo : Int → Int → Int × Bool) (l : List Int) : List Int := (l.foldl (togStep cl bo) ([], -1, 0)).1
theorem near_pos (out : List Int) (x6 : Int) (h : nearS out x6 = true) : 0 ≤ x6 := by
  unfold nearS at h
  rw [Bool.and_eq_true] at h
  exact of_decide_eq_true h.1
/-- what two are together -/
def bothR (l0 : List Sp) (l1 : List Cl) (l2 : List Pa) (l3 : List Wa) (l4 : List Jo) (a b : Int) : Int × Bool := (nfc_both.f 1 l0 l1 l2 l3 l4 a b).getD (0, false)
theorem put_some (l0 : List Sp) (l1 : List Cl) (l2 : List Pa) (l3 : List Wa) (l4 : List Jo) (h : l2.length ≤ 1073741824) (a b : Int) : tables_Put.f l0 l1 l2 l3 l4 a b = some ((putOf l2 a b).getD 0, (putOf l2 a b).isSome) := by unfold tables_Put.f; rw [if_pos h]
theorem both_one (l0 : List Sp) (l1 : List Cl) (l2 : List Pa) (l3 : List Wa) (l4 : List Jo) (h : l2.length ≤ 1073741824) (a b : Int) : ∃ x, nfc_both.f 1 l0 l1 l2 l3 l4 a b = some x := by
  have hj : ∀ x1 x2 x8 x9 x30, ∃ x, nfc_both.j0 1 x1 x2 x8 x9 x30 l0 l1 l2 l3 l4 = some x := by
    intro x1 x2 x8 x9 x30
    unfold nfc_both.j0
    simp only [put_some l0 l1 l2 l3 l4 h, Option.bind_some]
    split
    · exact ⟨_, rfl⟩
    · have hs : ∃ y, nfc_syllable.f x1 = some y := by unfold nfc_syllable.f; split <;> exact ⟨_, rfl⟩
      obtain ⟨y, hy⟩ := hs
      rw [hy, Option.bind_some]
      repeat' split
      all_goals exact ⟨_, rfl⟩
  unfold nfc_both.f
  repeat' split
  all_goals exact hj _ _ _ _ _
theorem both_some (l0 : List Sp) (l1 : List Cl) (l2 : List Pa) (l3 : List Wa) (l4 : List Jo) (h : l2.length ≤ 1073741824) (a b : Int) : ∀ k, nfc_both.f (k + 1) l0 l1 l2 l3 l4 a b = some (bothR l0 l1 l2 l3 l4 a b)
  | 0 => by obtain ⟨x, hx⟩ := both_one l0 l1 l2 l3 l4 h a b; unfold bothR; rw [hx]; rfl
  | k + 1 => nfc_both.mono l0 l1 l2 l3 l4 a b (k + 1) _ (both_some l0 l1 l2 l3 l4 h a b k)
section
variable (l0 : List Sp) (l1 : List Cl) (l2 : List Pa) (l3 : List Wa) (l4 : List Jo) (h1 : l1.length ≤ 1073741824) (h2 : l2.length ≤ 1073741824)
include h1 h2
theorem cls_some (r : Int) : tables_Class.f l0 l1 l2 l3 l4 r = some (clsOf l1 r) := by unfold tables_Class.f; rw [if_pos h1]
theorem j2_eq (m : Nat) (out : List Int) (x6 x7 r c : Int) (near : Bool) (l : List Int) (N i : Int) (go : Bool) (hg : go = true → 0 ≤ x6 ∧ x6 < out.length) (hl : out.length < 35184372088832) :
    nfc_Together.j2 (m + 2) out x6 x7 r c near l N i go l0 l1 l2 l3 l4 = nfc_Together.l0 (m + 1) (tog2 (clsOf l1) (bothR l0 l1 l2 l3 l4) out x6 x7 r c near go).1 (tog2 (clsOf l1) (bothR l0 l1 l2 l3 l4) out x6 x7 r c near go).2.1 (tog2 (clsOf l1) (bothR l0 l1 l2 l3 l4) out x6 x7 r c near go).2.2 l N (wrap64 (i + 1)) l0 l1 l2 l3 l4 := by
  rw [nfc_Together.j2]
  have hpush : (if c = 0 then (if out.length < 35184372088832 then (nfc_Together.l0 (m + 1) (out ++ [r]) (out.length : Int) c l N (wrap64 (i + 1)) l0 l1 l2 l3 l4) else (none)) else (if out.length < 35184372088832 then (nfc_Together.l0 (m + 1) (out ++ [r]) x6 c l N (wrap64 (i + 1)) l0 l1 l2 l3 l4) else (none))) = nfc_Together.l0 (m + 1) (pushS out x6 r c).1 (pushS out x6 r c).2.1 (pushS out x6 r c).2.2 l N (wrap64 (i + 1)) l0 l1 l2 l3 l4 := by
    rw [if_pos hl, if_pos hl]
    unfold pushS
    by_cases hc : c = 0
    · rw [if_pos hc]; simp only [if_pos hc]
    · rw [if_neg hc]; simp only [if_neg hc]
  cases go with
  | false =>
    rw [if_neg (by decide), hpush]
    unfold tog2
    rw [if_neg (by decide)]
  | true =>
    obtain ⟨g1, g2⟩ := hg rfl
    rw [if_pos rfl, if_pos g1, if_pos g2, both_some l0 l1 l2 l3 l4 h2, Option.bind_some]
    unfold tog2
    rw [if_pos rfl]
    by_cases hb : (bothR l0 l1 l2 l3 l4 (rd out x6) r).2 = true
    · rw [if_pos hb, if_pos hb, Option.bind_some]
      cases near with
      | true => rw [if_pos rfl, cls_some l0 l1 l2 l3 l4 h1 h2, Option.bind_some]; simp only [if_true]
      | false => rw [if_neg (by decide)]; simp only [Bool.false_eq_true, if_false]
    · rw [if_neg hb, if_neg hb, hpush]
theorem j1_eq (m : Nat) (out : List Int) (x6 x7 r c : Int) (near : Bool) (l : List Int) (N i : Int) (hn : near = true → 0 ≤ x6) (hx : x6 < out.length) (hl : out.length < 35184372088832) :
    nfc_Together.j1 (m + 3) out x6 x7 r c near l N i l0 l1 l2 l3 l4 = nfc_Together.l0 (m + 1) (tog2 (clsOf l1) (bothR l0 l1 l2 l3 l4) out x6 x7 r c near (goes x6 x7 c near)).1 (tog2 (clsOf l1) (bothR l0 l1 l2 l3 l4) out x6 x7 r c near (goes x6 x7 c near)).2.1 (tog2 (clsOf l1) (bothR l0 l1 l2 l3 l4) out x6 x7 r c near (goes x6 x7 c near)).2.2 l N (wrap64 (i + 1)) l0 l1 l2 l3 l4 := by
  rw [nfc_Together.j1]
  have key : ∀ go, goes x6 x7 c near = go → (go = true → 0 ≤ x6 ∧ x6 < out.length) → nfc_Together.j2 (m + 2) out x6 x7 r c near l N i go l0 l1 l2 l3 l4 = nfc_Together.l0 (m + 1) (tog2 (clsOf l1) (bothR l0 l1 l2 l3 l4) out x6 x7 r c near (goes x6 x7 c near)).1 (tog2 (clsOf l1) (bothR l0 l1 l2 l3 l4) out x6 x7 r c near (goes x6 x7 c near)).2.1 (tog2 (clsOf l1) (bothR l0 l1 l2 l3 l4) out x6 x7 r c near (goes x6 x7 c near)).2.2 l N (wrap64 (i + 1)) l0 l1 l2 l3 l4 := fun go hg h => by
    rw [hg]; exact j2_eq l0 l1 l2 l3 l4 h1 h2 m out x6 x7 r c near l N i go h hl
  cases near with
  | true =>
    rw [if_pos rfl]
    exact key true rfl (fun _ => ⟨hn rfl, hx⟩)
  | false =>
    rw [if_neg (by decide)]
    by_cases h6 : x6 ≥ 0
    · rw [if_pos h6]
      by_cases h7 : x7 = 0
      · rw [if_pos h7]
        refine key false ?_ (fun h => by cases h)
        unfold goes; rw [h7]; simp
      · rw [if_neg h7]
        refine key _ ?_ (fun _ => ⟨h6, hx⟩)
        unfold goes
        rw [decide_eq_true (show 0 ≤ x6 from h6), beq_eq_false_iff_ne.2 h7]
        simp
    · rw [if_neg h6]
      refine key false ?_ (fun h => by cases h)
      unfold goes
      rw [decide_eq_false (show ¬ 0 ≤ x6 from h6)]
      rfl
omit h1 h2 in
theorem tog_inv (cl : Int → Int) (bo : Int → Int → Int × Bool) (out : List Int) (x6 x7 r c : Int) (near go : Bool) (h6 : -1 ≤ x6) (hx : x6 < out.length) :
    -1 ≤ (tog2 cl bo out x6 x7 r c near go).2.1 ∧ (tog2 cl bo out x6 x7 r c near go).2.1 < (tog2 cl bo out x6 x7 r c near go).1.length ∧ (tog2 cl bo out x6 x7 r c near go).1.length ≤ out.length + 1 := by
  have hp : -1 ≤ (pushS out x6 r c).2.1 ∧ (pushS out x6 r c).2.1 < (pushS out x6 r c).1.length ∧ (pushS out x6 r c).1.length ≤ out.length + 1 := by
    unfold pushS
    simp only [List.length_append, List.length_singleton]
    split <;> omega
  unfold tog2
  repeat' split
  all_goals first
    | exact hp
    | (simp only [List.length_set]; exact ⟨h6, hx, Nat.le_succ _⟩)
theorem tog_loop (l : List Int) (hl : l.length ≤ 1073741824) : ∀ (n i : Nat) (out : List Int) (x6 x7 : Int) (k : Nat), i + n = l.length → -1 ≤ x6 → x6 < out.length → out.length ≤ i → 3 * n + 1 ≤ k →
    nfc_Together.l0 k out x6 x7 l (l.length : Int) (i : Int) l0 l1 l2 l3 l4 = some ((l.drop i).foldl (togStep (clsOf l1) (bothR l0 l1 l2 l3 l4)) (out, x6, x7)).1 := by
  intro n
  induction n with
  | zero =>
    intro i out x6 x7 k hi h6 hx ho hk
    obtain ⟨k, rfl⟩ : ∃ k', k = k' + 1 := ⟨k - 1, by omega⟩
    rw [nfc_Together.l0, if_neg (by omega), List.drop_of_length_le (by omega)]
    rfl
  | succ n ih =>
    intro i out x6 x7 k hi h6 hx ho hk
    obtain ⟨m, rfl⟩ : ∃ m, k = m + 4 := ⟨k - 4, by omega⟩
    have hil : i < l.length := by omega
    have hrd : rd l (i : Int) = l[i] := by simp [rd, List.getD_eq_getElem?_getD, hil]
    rw [nfc_Together.l0, if_pos (by omega), if_pos (by omega), if_pos (by omega), hrd, cls_some l0 l1 l2 l3 l4 h1 h2, Option.bind_some]
    have hol : out.length < 35184372088832 := by omega
    have hn1 : i + 1 + n = l.length := by omega
    have hk1 : 3 * n + 1 ≤ m + 1 := by omega
    have hw : wrap64 ((out.length : Int) - 1) = (out.length : Int) - 1 := by unfold wrap64; omega
    have hw2 : wrap64 ((i : Int) + 1) = ((i + 1 : Nat) : Int) := by unfold wrap64; omega
    rw [hw]
    have hnear : (if x6 ≥ 0 then (nfc_Together.j1 (m + 3) out x6 x7 l[i] (clsOf l1 l[i]) (x6 == (out.length : Int) - 1) l (l.length : Int) (i : Int) l0 l1 l2 l3 l4) else (nfc_Together.j1 (m + 3) out x6 x7 l[i] (clsOf l1 l[i]) false l (l.length : Int) (i : Int) l0 l1 l2 l3 l4)) = nfc_Together.j1 (m + 3) out x6 x7 l[i] (clsOf l1 l[i]) (nearS out x6) l (l.length : Int) (i : Int) l0 l1 l2 l3 l4 := by
      unfold nearS
      by_cases h : x6 ≥ 0
      · rw [if_pos h, decide_eq_true (show 0 ≤ x6 from h), Bool.true_and]
      · rw [if_neg h, decide_eq_false (show ¬ 0 ≤ x6 from h), Bool.false_and]
    rw [hnear, j1_eq l0 l1 l2 l3 l4 h1 h2 m out x6 x7 _ _ _ l _ _ (near_pos out x6) hx hol, hw2]
    clear hw hw2 hnear hrd
    obtain ⟨t1, t2, t3⟩ := tog_inv (clsOf l1) (bothR l0 l1 l2 l3 l4) out x6 x7 l[i] (clsOf l1 l[i]) (nearS out x6) (goes x6 x7 (clsOf l1 l[i]) (nearS out x6)) h6 hx
    rw [ih (i + 1) _ _ _ (m + 1) hn1 t1 t2 (Nat.le_trans t3 (Nat.succ_le_succ ho)) hk1, List.drop_eq_getElem_cons hil]
    rfl
theorem together_some (l : List Int) (hl : l.length ≤ 1073741824) (k : Nat) (hk : 3 * l.length + 1 ≤ k) : nfc_Together.f k l0 l1 l2 l3 l4 l = some (togL (clsOf l1) (bothR l0 l1 l2 l3 l4) l) := by
  unfold nfc_Together.f togL
  exact tog_loop l0 l1 l2 l3 l4 h1 h2 l hl l.length 0 [] (-1) 0 k (by omega) (by omega) (by simp) (Nat.le_refl _) hk
omit h1 h2 in
omit h1 h2 in
end
end Go.Proofs.YtmjnipifpeehgaaDoor.Q
