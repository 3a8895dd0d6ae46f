/- The laws QuerySorted and QueryChanges, plain. -/
import Derived.Test.YtbcbmmlpgdndpaaDoorSQSort
import Derived.Test.YtbcbmmlpgdndpaaDoorSB10
import Derived.Test.YtbcbmmlpgdndpaaDoorSQQuerySorted
set_option linter.unusedSimpArgs false
set_option linter.unusedVariables false
namespace Go.Proofs.YtbcbmmlpgdndpaaDoor.Q
open Go.RowKit Go.Proofs.YtbcbmmlpgdndpaaDoorW.PrintWords Go.Proofs.YtbcbmmlpgdndpaaDoorW.PrintLast Go.Proofs.YtbcbmmlpgdndpaaDoorW.PrintMore Go.Proofs.YtbcbmmlpgdndpaaDoor.P1 Go.Proofs.YtbcbmmlpgdndpaaDoor.R Go.Proofs.YtbcbmmlpgdndpaaDoor.Qu Go.Proofs.YtbcbmmlpgdndpaaDoor.St
abbrev ltK : Fld → Fld → Bool := fun a b => lexLt (keyU a) (keyU b)
theorem sortL_length (l : List Fld) : (sortL l).length = l.length := stab_length l
theorem sortL_sd (l : List Fld) : Sd ltK (sortL l) := stab_sorted (lex_tot keyU) (lex_tr keyU) l
theorem sortL_twice (l : List Fld) : sortL (sortL l) = sortL l := stab_of_sorted (sortL l) (sortL_sd l)
theorem sortL_filter (n : List UInt8) (l : List Fld) : (sortL l).filter (hasN n) = l.filter (hasN n) :=
  stab_key keyU (hasN n) (fun x y h1 h2 => by
    unfold hasN at h1 h2
    have e1 : keyF x = n := by simpa using h1
    have e2 : keyF y = n := by simpa using h2
    unfold keyU; rw [e1, e2]) l
theorem mrg_mem_small (x : Fld) : ∀ (l : List Fld) (y : Fld), y ∈ mrg (leq ltK) [x] l → y = x ∨ y ∈ l := by
  intro l y h
  rcases mrg_mem _ _ _ (Nat.le_refl _) h with h | h
  · exact .inl (by simpa using h)
  · exact .inr h
theorem sortL_mem : ∀ (l : List Fld) (y : Fld), y ∈ sortL l → y ∈ l
  | [], y, h => h
  | x :: l, y, h => by
    rcases mrg_mem_small x _ y h with h | h
    · rw [h]; exact List.mem_cons_self
    · exact List.mem_cons_of_mem _ (sortL_mem l y h)
theorem sort_f (l : List Fld) (h : l.length ≤ 1073741824) (hs : ∀ x ∈ l, smallF x) : query_Sort.f l = some (sortL l) := by
  unfold query_Sort.f
  rw [if_pos ⟨h, List.all_eq_true.2 (fun x hx => decide_eq_true (hs x hx))⟩]
theorem toList_key (x : Fld) (n : ByteArray) : (x.f0.toList = n.toList) ↔ hasN n.data.toList x = true := by
  unfold hasN keyF
  rw [Go.ByteArray.toList_eq, Go.ByteArray.toList_eq]; simp
theorem filt_cons (n : List UInt8) (x : Fld) (l : List Fld) (h : hasN n x = true) : (x :: l).filter (hasN n) = x :: l.filter (hasN n) := List.filter_cons_of_pos h
theorem filt_skip (n : List UInt8) (x : Fld) (l : List Fld) (h : ¬ hasN n x = true) : (x :: l).filter (hasN n) = l.filter (hasN n) := List.filter_cons_of_neg h
theorem sorted_l2 (l a : List Fld) (hla : a.length = l.length) (hl : l.length ≤ 1048576) (nm : ByteArray) (names : List ByteArray) (nl j : Int) (hnext : Ev (fun k => bastionlaw11_QuerySorted.l1 k l a names nl (wrap64 (j + 1))) true) :
    ∀ (r s p q X Y : List Fld), p ++ r = l → q ++ s = a → p.length = q.length → X.length ≤ p.length → Y.length ≤ p.length → X ++ r.filter (hasN nm.data.toList) = Y ++ s.filter (hasN nm.data.toList) →
      Ev (fun k => bastionlaw11_QuerySorted.l2 k l a nm X Y names nl j (l.length : Int) (p.length : Int)) true
  | [], s, p, q, X, Y, hp, hq, hpq, hX, hY, h => by
    have hpl : p.length = l.length := by rw [← hp]; simp
    have hs0 : s = [] := by
      have := congrArg List.length hq
      simp only [List.length_append] at this
      exact List.eq_nil_of_length_eq_zero (by omega)
    subst hs0
    simp only [List.filter_nil, List.append_nil] at h
    refine Ev.succ (f := ?f) (fun k => ?h) ?e
    case h =>
      simp only [bastionlaw11_QuerySorted.l2]
      rw [if_neg (by omega)]
    rw [h]
    exact (sameF_refl Y (by omega)).bind (Ev.ite_pos rfl hnext)
  | x :: r, s, p, q, X, Y, hp, hq, hpq, hX, hY, h => by
    have hpl : l.length = p.length + 1 + r.length := by rw [← hp]; simp; omega
    obtain ⟨y, s, rfl⟩ : ∃ y s', s = y :: s' := by
      cases s with
      | nil =>
        have := congrArg List.length hq
        simp only [List.length_append, List.length_nil] at this
        omega
      | cons y s => exact ⟨y, s, rfl⟩
    have ex : rd_T32 l (p.length : Int) = x := by rw [← hp]; exact rdF_end p r x _ rfl
    have ey : rd_T32 a (p.length : Int) = y := by rw [← hq]; exact rdF_end q s y _ (by omega)
    have ih := fun X' Y' h1 h2 h3 => sorted_l2 l a hla hl nm names nl j hnext r s (p ++ [x]) (q ++ [y]) X' Y' (by simpa using hp) (by simpa using hq) (by simp; omega) h1 h2 h3
    rw [show (((p ++ [x]).length : Nat) : Int) = (p.length : Int) + 1 by simp] at ih
    by_cases hx : hasN nm.data.toList x = true
    · rw [filt_cons _ _ _ hx] at h
      by_cases hy : hasN nm.data.toList y = true
      · rw [filt_cons _ _ _ hy] at h
        have ih' := ih (X ++ [x]) (Y ++ [y]) (by simp; omega) (by simp; omega) (by simpa using h)
        refine Ev.succ (fun k => ?_) ih'
        simp only [bastionlaw11_QuerySorted.l2]
        rw [if_pos (by omega), if_pos (by omega), if_pos (by omega), ex, if_pos ((toList_key x nm).2 hx), if_pos (by omega)]
        simp only [Option.bind_some]
        rw [if_pos (by omega), ey, if_pos ((toList_key y nm).2 hy), if_pos (by omega), w64 (by omega) (by omega)]
      · rw [filt_skip _ _ _ hy] at h
        have ih' := ih (X ++ [x]) Y (by simp; omega) (by simp; omega) (by simpa using h)
        refine Ev.succ (fun k => ?_) ih'
        simp only [bastionlaw11_QuerySorted.l2]
        rw [if_pos (by omega), if_pos (by omega), if_pos (by omega), ex, if_pos ((toList_key x nm).2 hx), if_pos (by omega)]
        simp only [Option.bind_some]
        rw [if_pos (by omega), ey, if_neg (fun e => hy ((toList_key y nm).1 e)), w64 (by omega) (by omega)]
    · rw [filt_skip _ _ _ hx] at h
      by_cases hy : hasN nm.data.toList y = true
      · rw [filt_cons _ _ _ hy] at h
        have ih' := ih X (Y ++ [y]) (by simp; omega) (by simp; omega) (by simpa using h)
        refine Ev.succ (fun k => ?_) ih'
        simp only [bastionlaw11_QuerySorted.l2]
        rw [if_pos (by omega), if_pos (by omega), if_pos (by omega), ex, if_neg (fun e => hx ((toList_key x nm).1 e)), if_pos (by omega), ey, if_pos ((toList_key y nm).2 hy), if_pos (by omega), w64 (by omega) (by omega)]
      · rw [filt_skip _ _ _ hy] at h
        have ih' := ih X Y (by simp; omega) (by simp; omega) h
        refine Ev.succ (fun k => ?_) ih'
        simp only [bastionlaw11_QuerySorted.l2]
        rw [if_pos (by omega), if_pos (by omega), if_pos (by omega), ex, if_neg (fun e => hx ((toList_key x nm).1 e)), if_pos (by omega), ey, if_neg (fun e => hy ((toList_key y nm).1 e)), w64 (by omega) (by omega)]
theorem sorted_l1 (l : List Fld) (hl : l.length ≤ 1048576) : ∀ (r p : List ByteArray), p.length + r.length ≤ 100000000 → Ev (fun k => bastionlaw11_QuerySorted.l1 k l (sortL l) (p ++ r) ((p ++ r).length : Int) (p.length : Int)) true
  | [], p, hp => by
    refine Ev.succ (f := fun _ => some true) (fun k => ?_) (Ev.now _)
    simp only [bastionlaw11_QuerySorted.l1]
    rw [if_neg (by simp)]
  | nm :: r, p, hp => by
    simp only [List.length_cons] at hp
    have ih := sorted_l1 l hl r (p ++ [nm]) (by simp; omega)
    rw [show (p ++ [nm]) ++ r = p ++ nm :: r by simp, show (((p ++ [nm]).length : Nat) : Int) = wrap64 ((p.length : Int) + 1) by rw [w64 (by omega) (by omega)]; simp] at ih
    have he : rdOf ByteArray.empty (p ++ nm :: r) (p.length : Int) = nm := by simp [rdOf]
    refine Ev.succ (f := ?f) (fun k => ?h) ?e
    case h =>
      simp only [bastionlaw11_QuerySorted.l1]
      rw [if_pos (by simp; omega), if_pos (by omega), if_pos (by simp; omega), he]
    exact sorted_l2 l (sortL l) (sortL_length l) hl nm _ _ _ ih l (sortL l) [] [] [] [] rfl rfl rfl (by simp) (by simp) (by rw [sortL_filter])
theorem sorted_l0 (l : List Fld) (hl : l.length ≤ 1048576) : ∀ (r p : List Fld) (names : List ByteArray), p ++ r = l → names.length ≤ p.length + 1 → Ev (fun k => bastionlaw11_QuerySorted.l0 k l (sortL l) names l (l.length : Int) (p.length : Int)) true
  | [], p, names, hp, hn => by
    have hpl : p.length = l.length := by rw [← hp]; simp
    have := sorted_l1 l hl names [] (by simp; omega)
    refine Ev.succ (fun k => ?_) this
    simp only [bastionlaw11_QuerySorted.l0]
    rw [if_neg (by omega)]
    simp
  | x :: r, p, names, hp, hn => by
    have hpl : l.length = p.length + 1 + r.length := by rw [← hp]; simp; omega
    have ex : rd_T32 l (p.length : Int) = x := by rw [← hp]; exact rdF_end p r x _ rfl
    by_cases h20 : (p.length : Int) < 20
    · have ih := sorted_l0 l hl r (p ++ [x]) (names ++ [x.f0]) (by simpa using hp) (by simp; omega)
      rw [show (((p ++ [x]).length : Nat) : Int) = (p.length : Int) + 1 by simp] at ih
      refine Ev.succ (fun k => ?_) ih
      simp only [bastionlaw11_QuerySorted.l0]
      rw [if_pos (by omega), if_pos (by omega), if_pos (by omega), if_pos h20, if_pos (by omega), ex, w64 (by omega) (by omega)]
    · have ih := sorted_l0 l hl r (p ++ [x]) names (by simpa using hp) (by simp; omega)
      rw [show (((p ++ [x]).length : Nat) : Int) = (p.length : Int) + 1 by simp] at ih
      refine Ev.succ (fun k => ?_) ih
      simp only [bastionlaw11_QuerySorted.l0]
      rw [if_pos (by omega), if_pos (by omega), if_pos (by omega), if_neg h20, w64 (by omega) (by omega)]
theorem QuerySorted_pure (l : List Fld) (n : ByteArray) (hl : l.length ≤ 1048576) (hs : ∀ x ∈ l, smallF x) : ∃ k, bastionlaw11_QuerySorted.f k l n = some true := by
  refine Ev.rounds (g := fun k => bastionlaw11_QuerySorted.f k l n) ?_
  unfold bastionlaw11_QuerySorted.f
  have hlen := sortL_length l
  refine qlives_ev.bind (Ev.ite_pos rfl ((Ev.const (sort_f l (by omega) hs)).bind (Ev.ite_pos (by rw [hlen]) ((Ev.const (sort_f (sortL l) (by omega) (fun x hx => hs x (sortL_mem l x hx)))).bind ?_))))
  rw [sortL_twice]
  refine (sameF_refl (sortL l) (by omega)).bind ?_
  have := sorted_l0 l hl l [] [n] rfl (by simp)
  refine Ev.succ (fun k => ?_) this
  simp only [bastionlaw11_QuerySorted.j0]
  rw [if_neg (by decide)]
  rfl
theorem querySorted_pure (l : List Fld) (n : ByteArray) (h : mFlds l + n.size ≤ 1048576) : ∃ k, bastionlaw11_QuerySorted.f k l n = some true :=
  QuerySorted_pure l n (by have := mFlds_len l; omega) (fun x hx => by have := mFlds_mem l x hx; unfold smallF; omega)
end Go.Proofs.YtbcbmmlpgdndpaaDoor.Q
