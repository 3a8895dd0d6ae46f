/- The laws QueryTexts, QueryBack, QueryJoins, plain. -/
import Derived.Test.YtbcbmmlpgdndpaaDoorSQRef
import Derived.Test.YtbcbmmlpgdndpaaDoorSQbastionlaw112
import Derived.Test.YtbcbmmlpgdndpaaDoorSQQueryTexts
import Derived.Test.YtbcbmmlpgdndpaaDoorSQQueryBack
import Derived.Test.YtbcbmmlpgdndpaaDoorSQQueryJoins
set_option linter.unusedSimpArgs false
set_option linter.unusedVariables false
namespace Go.Proofs.YtbcbmmlpgdndpaaDoor.Q
open Go.RowKit Go.Proofs.YtbcbmmlpgdndpaaDoorW.PrintWords Go.Proofs.YtbcbmmlpgdndpaaDoorW.PrintLast Go.Proofs.YtbcbmmlpgdndpaaDoorW.PrintMore Go.Proofs.YtbcbmmlpgdndpaaDoor.P1 Go.Proofs.YtbcbmmlpgdndpaaDoor.R Go.Proofs.YtbcbmmlpgdndpaaDoor.Qu
theorem scal_twice (l : List UInt8) : scal (scal l) = scal l := by unfold scal; rw [uDec_enc0, enc_map_fix]
theorem rdT_qu (l : List UInt8) : rdT (quL l) = scal l := by unfold rdT; rw [qu_back]
theorem rdT_scal (l : List UInt8) : scal (rdT l) = rdT l := by unfold rdT; rw [scal_twice]
theorem prsF_pt (s : List UInt8) : (prsF s).map pt = prs rdT s := by
  unfold prsF rdP prs
  rw [parts_cutB, List.map_map]
  rfl
theorem prs_prtF (l : List Fld) : (prsF (prtF l)).map pt = l.map fun x => scp (pt x) := by
  rw [prsF_pt]
  unfold prtF
  rw [prs_prt, List.map_map]
  apply List.map_congr_left
  intro x _
  simp only [Function.comp_apply, scp, rdT_qu, scal_twice]
theorem prs_prtF_len (l : List Fld) : (prsF (prtF l)).length = l.length := by
  have := congrArg List.length (prs_prtF l)
  simpa using this
theorem prsF_good (s : List UInt8) : ∀ x ∈ prsF s, scp (pt x) = pt x := by
  intro x hx
  unfold prsF rdP at hx
  obtain ⟨p, _, rfl⟩ := List.mem_map.1 hx
  show (scal (rdT _), scal (rdT _)) = _
  rw [rdT_scal, rdT_scal]; rfl
theorem prs_again (s : List UInt8) : (prsF (prtF (prsF s))).map pt = (prsF s).map pt := by
  rw [prs_prtF]
  exact List.map_congr_left (prsF_good s)
theorem prsF_join (a b : List UInt8) : prsF (a ++ 38 :: b) = prsF a ++ prsF b := by
  unfold prsF rdP
  rw [parts_cutB, parts_cutB, parts_cutB, cutB_join, List.filter_append, List.map_append]
theorem prsF_len (s : List UInt8) : (prsF s).length ≤ s.length + 1 := Nat.le_trans (rdP_len _) (parts_count 38 s)
theorem qlives_now : bastionlaw11_lives.f 100 = some true := by decide +kernel
theorem qlives_ev : Ev (fun k => bastionlaw11_lives.f k) true := Ev.of (fun k => bastionlaw11_lives.mono k) qlives_now
theorem QueryTexts_pure (l : List Fld) (s : ByteArray) (hl : l.length ≤ 1048576) (hs : s.size ≤ 1048576) : ∃ k, bastionlaw11_QueryTexts.f k l s = some true := by
  obtain ⟨t, rfl⟩ := B_ex s
  rw [B_size] at hs
  refine Ev.rounds (g := fun k => bastionlaw11_QueryTexts.f k l (B t)) ?_
  unfold bastionlaw11_QueryTexts.f
  simp only [Option.bind_some, List.nil_append]
  obtain ⟨r, h1, h2⟩ := ref_Print_ev l
  have h3 := prsF_len t
  have h4 : (ansP (prsF t)).1.length ≤ 1048577 := by unfold ansP; split <;> simp <;> omega
  have h5 : (if 65536 < t.length then (([], 4) : List Fld × Int) else ansP (prsF t)).1.length ≤ 1048577 := by
    split
    · simp
    · exact h4
  refine Ev.ite_pos (by simp; omega) ((Ev.const h1).bind (h2.bind ((Ev.const (query_Parse_f t)).bind ((ref_Parse_ev t).bind (qlives_ev.bind (Ev.ite_pos rfl (Ev.ite_pos rfl (Ev.ite_pos rfl ((sameF_refl _ (by omega)).bind (Ev.ite_pos rfl (Ev.ite_pos rfl ((sameF_refl _ (by omega)).bind (Ev.now _)))))))))))))
/-- whether all texts are good -/
def goodF (l : List Fld) : Bool := l.all fun x => (encRunes (uDec (pt x).1) == (pt x).1) && (encRunes (uDec (pt x).2) == (pt x).2)
theorem goodF_same (l : List Fld) (h : goodF l = true) : (prsF (prtF l)).map pt = l.map pt := by
  rw [prs_prtF]
  refine List.map_congr_left (fun x hx => ?_)
  have := List.all_eq_true.1 h x hx
  simp only [Bool.and_eq_true, beq_iff_eq] at this
  show (scal _, scal _) = _
  unfold scal
  rw [this.1, this.2]
theorem print_f (l : List Fld) : (256 < l.length ∧ query_Print.f l = some (⟨#[]⟩, 3)) ∨ (l.length ≤ 256 ∧ l.any (fun x => longP x.f0 x.f1) = true ∧ query_Print.f l = some (⟨#[]⟩, 4)) ∨ (l.length ≤ 256 ∧ (∀ x ∈ l, shortP x) ∧ query_Print.f l = some (B (prtF l), 0)) := by
  unfold query_Print.f
  by_cases h : 256 < l.length
  · exact .inl ⟨h, if_pos h⟩
  · by_cases h2 : l.any (fun x => longP x.f0 x.f1) = true
    · exact .inr (.inl ⟨by omega, h2, by rw [if_neg h, if_pos h2]⟩)
    · exact .inr (.inr ⟨by omega, fun x hx => short_of (by have := List.any_eq_false.1 (by simpa using h2) x hx; simpa using this), by rw [if_neg h, if_neg h2]⟩)
theorem parse_f_ok (s : List UInt8) (h : s.length ≤ 65536) (h2 : (prsF s).length ≤ 256) : query_Parse.f (B s) = some (prsF s, 0) := by
  rw [query_Parse_f, if_neg (by omega)]
  unfold ansP
  rw [if_neg (by omega)]
theorem parse_f (s : List UInt8) : (∃ e, e ≠ 0 ∧ query_Parse.f (B s) = some ([], e)) ∨ (s.length ≤ 65536 ∧ (prsF s).length ≤ 256 ∧ query_Parse.f (B s) = some (prsF s, 0)) := by
  rw [query_Parse_f]
  unfold ansP
  by_cases h : 65536 < s.length
  · exact .inl ⟨4, by decide, by rw [if_pos h]⟩
  · by_cases h2 : 256 < (prsF s).length
    · exact .inl ⟨3, by decide, by rw [if_neg h, if_pos h2]⟩
    · exact .inr ⟨by omega, by omega, by rw [if_neg h, if_neg h2]⟩
theorem back_j1 (s : List UInt8) : Ev (fun k => bastionlaw11_QueryBack.j1 k (B s)) true := by
  refine Ev.succ (f := ?f) (fun k => ?h) ?e
  case h => simp only [bastionlaw11_QueryBack.j1]; rfl
  rcases parse_f s with ⟨e, he, hp⟩ | ⟨h1, h2, hp⟩
  · refine (Ev.const hp).bind (Ev.ite_neg he ?_)
    simpa using Ev.now true
  · refine (Ev.const hp).bind (Ev.ite_pos rfl ?_)
    rcases print_f (prsF s) with ⟨h3, _⟩ | ⟨_, _, h4⟩ | ⟨_, _, h4⟩
    · omega
    · refine (Ev.const h4).bind (Ev.ite_neg (by decide) ?_)
      refine Ev.succ (f := fun _ => some true) (fun k => ?_) (Ev.now _)
      simp [bastionlaw11_QueryBack.j2]
    · refine (Ev.const h4).bind (Ev.ite_pos rfl ?_)
      by_cases hg : 65536 < (prtF (prsF s)).length
      · refine Ev.succ (f := fun _ => some true) (fun k => ?_) (Ev.now _)
        simp only [bastionlaw11_QueryBack.j2]
        rw [if_pos (by rw [B_size]; exact decide_eq_true (by omega))]
        simp
      · refine Ev.succ (f := fun k => (query_Parse.f (B (prtF (prsF s)))).bind fun bt440 => (if bt440.2 = 0 then ((bastionref11_Same.f k (prsF s) bt440.1).bind fun t444 => (some t444)) else (some false))) (fun k => ?_) ?_
        · simp only [bastionlaw11_QueryBack.j2]
          rw [if_neg (by rw [B_size]; simp; omega)]
        · refine (Ev.const (parse_f_ok _ (by omega) (by rw [prs_prtF_len]; exact h2))).bind (Ev.ite_pos rfl ?_)
          have := sameF_ev (prsF s) (prsF (prtF (prsF s))) (by omega)
          rw [prs_again, decide_eq_true rfl] at this
          exact this.bind (Ev.now _)
theorem back_l0 (l : List Fld) (s : List UInt8) (hl : l.length ≤ 256) : ∀ (r p : List Fld), p ++ r = l → (∀ x ∈ l, shortP x) → Ev (fun k => bastionlaw11_QueryBack.l0 k l (B s) (B (prtF l)) (goodF p) l (l.length : Int) (p.length : Int)) true
  | [], p, hp, hs => by
    simp only [List.append_nil] at hp
    subst hp
    refine Ev.succ (f := ?f) (fun k => ?h) ?e
    case h =>
      simp only [bastionlaw11_QueryBack.l0]
      rw [if_neg (by simp)]
    by_cases hg : (prtF p).length ≤ 65536
    · refine Ev.ite_pos (by rw [B_size]; omega) ((Ev.const (parse_f_ok _ hg (by rw [prs_prtF_len]; exact hl))).bind (Ev.ite_pos rfl (Ev.ite_pos (by rw [prs_prtF_len]) ?_)))
      by_cases hG : goodF p = true
      · refine Ev.ite_pos hG ?_
        have := sameF_ev (prsF (prtF p)) p (by rw [prs_prtF_len]; omega)
        rw [goodF_same p hG, decide_eq_true rfl] at this
        exact this.bind (Ev.ite_pos rfl (back_j1 s))
      · exact Ev.ite_neg hG (back_j1 s)
    · exact Ev.ite_neg (by rw [B_size]; omega) (back_j1 s)
  | x :: r, p, hp, hs => by
    have hlen : l.length = p.length + 1 + r.length := by rw [← hp]; simp; omega
    have hx : rd_T32 l (p.length : Int) = x := by rw [← hp]; exact rdF_end p r x _ rfl
    obtain ⟨h0, h1⟩ := hs x (by rw [← hp]; simp)
    have h0' : (pt x).1.length ≤ 4096 := h0
    have h1' : (pt x).2.length ≤ 4096 := h1
    have ih := back_l0 l s hl r (p ++ [x]) (by simpa using hp) hs
    have hgo : goodF (p ++ [x]) = (goodF p && ((encRunes (uDec (pt x).1) == (pt x).1) && (encRunes (uDec (pt x).2) == (pt x).2))) := by simp [goodF, List.all_append]
    rw [hgo, show (((p ++ [x]).length : Nat) : Int) = (p.length : Int) + 1 by simp] at ih
    refine Ev.succ (f := ?f2) (fun k => ?h2) ?e2
    case h2 =>
      simp only [bastionlaw11_QueryBack.l0]
      rw [if_pos (by omega), if_pos (by omega), if_pos (by omega), hx, w64 (by omega) (by omega)]
    by_cases hG : goodF p = true
    · rw [hG] at ih ⊢
      refine Ev.ite_pos rfl ((Ev.const (utf_Valid_f (pt x).1 (by omega))).bind ?_)
      by_cases e1 : (encRunes (uDec (pt x).1) == (pt x).1) = true
      · rw [e1] at ih ⊢
        refine Ev.ite_pos rfl ((Ev.const (utf_Valid_f (pt x).2 (by omega))).bind ?_)
        simpa using ih
      · have e1 : (encRunes (uDec (pt x).1) == (pt x).1) = false := by simpa using e1
        rw [e1] at ih ⊢
        refine Ev.ite_neg (by decide) ?_
        simpa using ih
    · have hG : goodF p = false := by simpa using hG
      rw [hG] at ih ⊢
      refine Ev.ite_neg (by decide) ?_
      simpa using ih
theorem QueryBack_pure (l : List Fld) (s : ByteArray) : ∃ k, bastionlaw11_QueryBack.f k l s = some true := by
  obtain ⟨t, rfl⟩ := B_ex s
  refine Ev.rounds (g := fun k => bastionlaw11_QueryBack.f k l (B t)) ?_
  unfold bastionlaw11_QueryBack.f
  refine qlives_ev.bind (Ev.ite_pos rfl ?_)
  rcases print_f l with ⟨_, h4⟩ | ⟨_, _, h4⟩ | ⟨h1, h2, h4⟩
  · refine (Ev.const h4).bind (Ev.ite_neg (by decide) ?_)
    simpa using Ev.now true
  · refine (Ev.const h4).bind (Ev.ite_neg (by decide) ?_)
    simpa using Ev.now true
  · refine (Ev.const h4).bind (Ev.ite_pos rfl ?_)
    have := back_l0 l t h1 l [] rfl h2
    simpa [goodF] using this
theorem print_one (x : Fld) (h : shortP x) : query_Print.f [x] = some (B (prtF [x]), 0) := by
  rcases print_f [x] with ⟨h1, _⟩ | ⟨_, h2, _⟩ | ⟨_, _, h4⟩
  · simp at h1
  · simp only [List.any_cons, List.any_nil, Bool.or_false, longP, decide_eq_true_eq] at h2
    unfold shortP at h; omega
  · exact h4
theorem prtF_one (x : Fld) : prtF [x] = fw (pt x).1 ++ 61 :: fw (pt x).2 := by have := prtF_snoc [] x; simpa [prtF, prt] using this
theorem joins_l0 (l : List Fld) (hl : l.length ≤ 256) (hs : ∀ x ∈ l, shortP x) : ∀ (r p : List Fld), p ++ r = l → Ev (fun k => bastionlaw11_QueryJoins.l0 k l (B (prtF l)) (B (prtF p)) (l.length : Int) (p.length : Int)) true
  | [], p, hp => by
    simp only [List.append_nil] at hp
    subst hp
    refine Ev.succ (f := fun _ => some true) (fun k => ?_) (Ev.now _)
    simp only [bastionlaw11_QueryJoins.l0]
    rw [if_neg (by simp)]
    simp
  | x :: r, p, hp => by
    have hlen : l.length = p.length + 1 + r.length := by rw [← hp]; simp; omega
    have hx := hs x (by rw [← hp]; simp)
    have ih := joins_l0 l hl hs r (p ++ [x]) (by simpa using hp)
    have hpl := prtF_len p.length p (Nat.le_refl _) (fun y hy => hs y (by rw [← hp]; simp [hy]))
    have h1l := prtF_len 1 [x] (by simp) (fun y hy => (show y = x by simpa using hy) ▸ hx)
    simp only [List.length_cons, List.length_nil] at h1l
    rw [prtF_snoc, ← prtF_one, show (((p ++ [x]).length : Nat) : Int) = (p.length : Int) + 1 by simp] at ih
    have hcut : (l.take ((p.length : Int) + 1).toNat).drop (p.length : Int).toNat = [x] := by
      rw [← hp, show ((p.length : Int) + 1).toNat = p.length + 1 by omega, Int.toNat_natCast, show p ++ x :: r = (p ++ [x]) ++ r by simp, show p.length + 1 = (p ++ [x]).length by simp, List.take_left, List.drop_left]
    refine Ev.succ (f := ?f2) (fun k => ?h2) ?e2
    case h2 =>
      simp only [bastionlaw11_QueryJoins.l0]
      rw [if_pos (by omega), if_pos (by omega), w64 (by omega) (by omega), if_pos (by omega), if_pos (by omega), hcut]
    refine (Ev.const (print_one x hx)).bind (Ev.ite_pos rfl ?_)
    by_cases hp0 : p = []
    · rw [if_pos hp0] at ih
      refine Ev.ite_neg (by rw [hp0]; decide) (Ev.ite_pos (by rw [B_size, B_size]; omega) ?_)
      simp only [B_append]
      simpa using ih
    · rw [if_neg hp0] at ih
      have hz : 0 < p.length := List.length_pos_iff.2 hp0
      have e38 : (⟨#[38]⟩ : ByteArray) = B [38] := rfl
      refine Ev.ite_pos (by omega) (Ev.ite_pos (by rw [B_size]; omega) (Ev.ite_pos (by rw [e38, B_append, B_size, B_size]; simp; omega) ?_))
      simp only [e38, B_append]
      simpa using ih
theorem joins_j0 (l : List Fld) : Ev (fun k => bastionlaw11_QueryJoins.j0 k l false) true := by
  refine Ev.succ (f := ?f) (fun k => ?h) ?e
  case h =>
    simp only [bastionlaw11_QueryJoins.j0]
    rw [if_neg (by decide)]
  rcases print_f l with ⟨_, h4⟩ | ⟨_, _, h4⟩ | ⟨h1, h2, h4⟩
  · refine (Ev.const h4).bind (Ev.ite_neg (by decide) ?_)
    simpa using Ev.now true
  · refine (Ev.const h4).bind (Ev.ite_neg (by decide) ?_)
    simpa using Ev.now true
  · refine (Ev.const h4).bind (Ev.ite_pos rfl ?_)
    have := joins_l0 l h1 h2 l [] rfl
    exact this
theorem QueryJoins_pure (a b : ByteArray) (l : List Fld) (ha : a.size ≤ 1048576) (hb : b.size ≤ 1048576) : ∃ k, bastionlaw11_QueryJoins.f k a b l = some true := by
  obtain ⟨x, rfl⟩ := B_ex a
  obtain ⟨y, rfl⟩ := B_ex b
  rw [B_size] at ha hb
  refine Ev.rounds (g := fun k => bastionlaw11_QueryJoins.f k (B x) (B y) l) ?_
  unfold bastionlaw11_QueryJoins.f
  have e38 : (⟨#[38]⟩ : ByteArray) = B [38] := rfl
  have eJ : (B x ++ (⟨#[38]⟩ : ByteArray)) ++ B y = B (x ++ 38 :: y) := by rw [e38, B_append, B_append]; simp
  have hj := joins_j0 l
  have fin : Ev (fun k => if (B x).size + 1 ≤ 9223372036854775807 then some () else none) () := Ev.ite_pos (by rw [B_size]; omega) (Ev.now _)
  rcases parse_f x with ⟨e1, he1, h1⟩ | ⟨_, hx2, h1⟩
  · obtain ⟨r2, h2⟩ : ∃ r, query_Parse.f (B y) = some r := ⟨_, query_Parse_f y⟩
    obtain ⟨r3, h3⟩ : ∃ r, query_Parse.f (B (x ++ 38 :: y)) = some r := ⟨_, query_Parse_f _⟩
    refine qlives_ev.bind (Ev.ite_pos rfl ((Ev.const h1).bind ((Ev.const h2).bind (Ev.ite_pos (by rw [B_size]; omega) (Ev.ite_pos (by rw [e38, B_append, B_size, B_size]; simp; omega) ?_)))))
    rw [eJ]
    exact (Ev.const h3).bind (Ev.ite_neg he1 hj)
  · rcases parse_f y with ⟨e2, he2, h2⟩ | ⟨_, hy2, h2⟩
    · obtain ⟨r3, h3⟩ : ∃ r, query_Parse.f (B (x ++ 38 :: y)) = some r := ⟨_, query_Parse_f _⟩
      refine qlives_ev.bind (Ev.ite_pos rfl ((Ev.const h1).bind ((Ev.const h2).bind (Ev.ite_pos (by rw [B_size]; omega) (Ev.ite_pos (by rw [e38, B_append, B_size, B_size]; simp; omega) ?_)))))
      rw [eJ]
      exact (Ev.const h3).bind (Ev.ite_pos rfl (Ev.ite_neg he2 hj))
    · refine qlives_ev.bind (Ev.ite_pos rfl ((Ev.const h1).bind ((Ev.const h2).bind (Ev.ite_pos (by rw [B_size]; omega) (Ev.ite_pos (by rw [e38, B_append, B_size, B_size]; simp; omega) ?_)))))
      rw [eJ]
      rcases parse_f (x ++ 38 :: y) with ⟨e3, he3, h3⟩ | ⟨_, hz2, h3⟩
      · exact (Ev.const h3).bind (Ev.ite_pos rfl (Ev.ite_pos rfl (Ev.ite_neg he3 hj)))
      · refine (Ev.const h3).bind (Ev.ite_pos rfl (Ev.ite_pos rfl (Ev.ite_pos rfl ?_)))
        simp only [Option.bind_some, List.nil_append]
        refine Ev.ite_pos (by simp; omega) (Ev.ite_pos (by omega) ?_)
        have := sameF_refl (prsF x ++ prsF y) (by rw [List.length_append]; omega)
        rw [prsF_join]
        exact this.bind hj
end Go.Proofs.YtbcbmmlpgdndpaaDoor.Q
