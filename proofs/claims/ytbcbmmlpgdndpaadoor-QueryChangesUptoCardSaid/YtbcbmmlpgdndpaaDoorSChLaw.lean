/- The law QueryChanges, plain. -/
import Derived.Test.YtbcbmmlpgdndpaaDoorSB13
import Derived.Test.YtbcbmmlpgdndpaaDoorSQQueryChanges
set_option linter.unusedSimpArgs false
set_option linter.unusedVariables false
namespace Go.Proofs.YtbcbmmlpgdndpaaDoor.Q
open Go.RowKit Go.Proofs.YtbcbmmlpgdndpaaDoorW.PrintWords Go.Proofs.YtbcbmmlpgdndpaaDoorW.PrintLast Go.Proofs.YtbcbmmlpgdndpaaDoorW.PrintMore Go.Proofs.YtbcbmmlpgdndpaaDoor.P1 Go.Proofs.YtbcbmmlpgdndpaaDoor.R Go.Proofs.YtbcbmmlpgdndpaaDoor.Qu Go.Proofs.YtbcbmmlpgdndpaaDoor.St
abbrev rdF := rd_T32
theorem rdF_get (l : List Fld) (n : Nat) (h : n < l.length) : rdF l (n : Int) = l[n]! := by
  rw [getElem!_pos l n h]
  have e : l = l.take n ++ l[n] :: l.drop (n + 1) := by rw [List.getElem_cons_drop, List.take_append_drop]
  have := rdF_end (l.take n) (l.drop (n + 1)) l[n] (n : Int) (by rw [List.length_take]; congr 1; omega)
  rw [← e] at this
  exact this
theorem rfind_l0 (l : List Fld) (n : ByteArray) (hl : l.length ≤ 1073741824) : ∀ (r p : List Fld), p ++ r = l → Ev (fun k => bastionref11_Find.l0 k n l (l.length : Int) (p.length : Int)) (valF (findQ n.data.toList r))
  | [], p, hp => by
    have hpl : p.length = l.length := by rw [← hp]; simp
    refine Ev.succ (f := fun _ => some (valF (findQ n.data.toList []))) (fun k => ?_) (Ev.now _)
    simp only [bastionref11_Find.l0]
    rw [if_neg (by omega)]
    rfl
  | x :: r, p, hp => by
    have hpl : l.length = p.length + 1 + r.length := by rw [← hp]; simp; omega
    have ex : rd_T32 l (p.length : Int) = x := by rw [← hp]; exact rdF_end p r x _ rfl
    by_cases h : hasN n.data.toList x = true
    · have e : findQ n.data.toList (x :: r) = some x := by unfold findQ; exact List.find?_cons_of_pos h
      rw [e]
      refine Ev.succ (f := fun _ => some (valF (some x))) (fun k => ?_) (Ev.now _)
      simp only [bastionref11_Find.l0]
      rw [if_pos (by omega), if_pos (by omega), if_pos (by omega), ex, if_pos ((toList_key x n).2 h)]
      rfl
    · have e : findQ n.data.toList (x :: r) = findQ n.data.toList r := by unfold findQ; exact List.find?_cons_of_neg h
      rw [e]
      have ih := rfind_l0 l n hl r (p ++ [x]) (by simpa using hp)
      rw [show (((p ++ [x]).length : Nat) : Int) = (p.length : Int) + 1 by simp] at ih
      refine Ev.succ (fun k => ?_) ih
      simp only [bastionref11_Find.l0]
      rw [if_pos (by omega), if_pos (by omega), if_pos (by omega), ex, if_neg (fun e => h ((toList_key x n).1 e)), w64 (by omega) (by omega)]
theorem rput_l0 (l : List Fld) (n vv : ByteArray) (hl : l.length ≤ 1073741824) : ∀ (r p out : List Fld) (b : Bool), p ++ r = l → out.length + r.length ≤ 1100000000 → Ev (fun k => bastionref11_Put.l0 k n vv out b l (l.length : Int) (p.length : Int)) (Ql.putR keyF n.data.toList ⟨n, vv⟩ r out b)
  | [], p, out, b, hp, ho => by
    simp only [List.length_nil] at ho
    have hpl : p.length = l.length := by rw [← hp]; simp
    refine Ev.succ (f := fun _ => some (Ql.putR keyF n.data.toList ⟨n, vv⟩ [] out b)) (fun k => ?_) (Ev.now _)
    simp only [bastionref11_Put.l0]
    rw [if_neg (by omega)]
    cases b
    · rw [if_neg (by decide), if_pos (by omega)]; rfl
    · rw [if_pos (by trivial)]; rfl
  | x :: r, p, out, b, hp, ho => by
    simp only [List.length_cons] at ho
    have hpl : l.length = p.length + 1 + r.length := by rw [← hp]; simp; omega
    have ex : rd_T32 l (p.length : Int) = x := by rw [← hp]; exact rdF_end p r x _ rfl
    have ih := fun o b h => rput_l0 l n vv hl r (p ++ [x]) o b (by simpa using hp) h
    rw [show (((p ++ [x]).length : Nat) : Int) = (p.length : Int) + 1 by simp] at ih
    unfold Ql.putR
    by_cases h : hasN n.data.toList x = true
    · have hk : keyF x = n.data.toList := by unfold hasN at h; simpa using h
      rw [if_pos hk]
      cases b
      · rw [if_neg (by decide)]
        have ih' := ih (out ++ [⟨n, vv⟩]) true (by simp; omega)
        refine Ev.succ (fun k => ?_) ih'
        simp only [bastionref11_Put.l0]
        rw [if_pos (by omega), if_pos (by omega), if_pos (by omega), ex, if_pos ((toList_key x n).2 h), if_neg (by decide), if_pos (by omega), w64 (by omega) (by omega)]
      · rw [if_pos rfl]
        have ih' := ih out true (by omega)
        refine Ev.succ (fun k => ?_) ih'
        simp only [bastionref11_Put.l0]
        rw [if_pos (by omega), if_pos (by omega), if_pos (by omega), ex, if_pos ((toList_key x n).2 h), if_pos trivial, w64 (by omega) (by omega)]
    · have hk : ¬ keyF x = n.data.toList := by unfold hasN at h; simpa using h
      rw [if_neg hk]
      have ih' := ih (out ++ [x]) b (by simp; omega)
      refine Ev.succ (fun k => ?_) ih'
      simp only [bastionref11_Put.l0]
      rw [if_pos (by omega), if_pos (by omega), if_pos (by omega), ex, if_neg (fun e => h ((toList_key x n).1 e)), if_pos (by omega), w64 (by omega) (by omega)]
theorem rdrop_l0 (l : List Fld) (n : ByteArray) (hl : l.length ≤ 1073741824) : ∀ (r p out : List Fld), p ++ r = l → out.length + r.length ≤ 1100000000 → Ev (fun k => bastionref11_Drop.l0 k n out l (l.length : Int) (p.length : Int)) (out ++ dropN n.data.toList r)
  | [], p, out, hp, ho => by
    have hpl : p.length = l.length := by rw [← hp]; simp
    refine Ev.succ (f := fun _ => some (out ++ dropN n.data.toList [])) (fun k => ?_) (Ev.now _)
    simp only [bastionref11_Drop.l0]
    rw [if_neg (by omega)]
    simp [dropN]
  | x :: r, p, out, hp, ho => by
    simp only [List.length_cons] at ho
    have hpl : l.length = p.length + 1 + r.length := by rw [← hp]; simp; omega
    have ex : rd_T32 l (p.length : Int) = x := by rw [← hp]; exact rdF_end p r x _ rfl
    have ih := fun o h => rdrop_l0 l n hl r (p ++ [x]) o (by simpa using hp) h
    rw [show (((p ++ [x]).length : Nat) : Int) = (p.length : Int) + 1 by simp] at ih
    by_cases h : hasN n.data.toList x = true
    · have e : dropN n.data.toList (x :: r) = dropN n.data.toList r := by
        unfold dropN; exact List.filter_cons_of_neg (by unfold lackN; rw [h]; decide)
      rw [e]
      refine Ev.succ (fun k => ?_) (ih out (by omega))
      simp only [bastionref11_Drop.l0]
      rw [if_pos (by omega), if_pos (by omega), if_pos (by omega), ex, if_pos ((toList_key x n).2 h), w64 (by omega) (by omega)]
    · have e : dropN n.data.toList (x :: r) = x :: dropN n.data.toList r := by
        unfold dropN; exact List.filter_cons_of_pos (by unfold lackN; simpa using h)
      have ih' := ih (out ++ [x]) (by simp; omega)
      rw [e, show out ++ x :: dropN n.data.toList r = (out ++ [x]) ++ dropN n.data.toList r by simp]
      refine Ev.succ (fun k => ?_) ih'
      simp only [bastionref11_Drop.l0]
      rw [if_pos (by omega), if_pos (by omega), if_pos (by omega), ex, if_neg (fun e => h ((toList_key x n).1 e)), if_pos (by omega), w64 (by omega) (by omega)]
theorem runits_l0 : ∀ (r p : List Int) (x : List Int), (∀ z ∈ r, mayR z) → x.length + 2 * r.length ≤ 1000000000 → p.length + r.length ≤ 1000000000 → Ev (fun k => bastionref11_units.l0 k x (p ++ r) ((p ++ r).length : Int) (p.length : Int)) (x ++ r.flatMap uns)
  | [], p, x, hr, hx, hp => by
    refine Ev.succ (f := fun _ => some x) (fun k => ?_) (by simpa using Ev.now x)
    simp only [bastionref11_units.l0]
    rw [if_neg (by simp)]
  | c :: r, p, x, hr, hx, hp => by
    simp only [List.length_cons] at hx hp
    have hc := hr c (by simp)
    have hul := uns_len c
    have ih := runits_l0 r (p ++ [c]) (x ++ uns c) (fun z hz => hr z (by simp [hz])) (by simp; omega) (by simp; omega)
    rw [show (p ++ [c]) ++ r = p ++ c :: r by simp, show (((p ++ [c]).length : Nat) : Int) = (p.length : Int) + 1 by simp] at ih
    rw [List.flatMap_cons, ← List.append_assoc]
    have hc2 := hc
    unfold mayR at hc2
    by_cases h : c > 65535
    · have hu : uns c = [55296 + (c - 65536) / 1024, 56320 + (c - 65536) % 1024] := if_pos h
      have e1 : wrap32 (55296 + (wrap32 (Int.tdiv (wrap32 (c - 65536)) 1024))) = 55296 + (c - 65536) / 1024 := by
        rw [w32 (i := c - 65536) (by omega) (by omega), Int.tdiv_eq_ediv_of_nonneg (by omega), w32 (i := (c - 65536) / 1024) (by omega) (by omega), w32 (by omega) (by omega)]
      have e2 : wrap32 (56320 + (Int.tmod c 1024)) = 56320 + (c - 65536) % 1024 := by
        rw [Int.tmod_eq_emod_of_nonneg (by omega), w32 (by omega) (by omega)]; omega
      refine Ev.succ (f := ?f) (fun k => ?h) ?e
      case h =>
        simp only [bastionref11_units.l0]
        rw [if_pos (by simp; omega), if_pos (by omega), if_pos (by simp; omega), rd_at, if_pos (by omega), e1, e2, ← hu, w64 (by omega) (by omega)]
      simp only [Option.bind_some]
      exact Ev.ite_pos (by omega) ih
    · have hu : uns c = [c] := if_neg h
      refine Ev.succ (f := ?f2) (fun k => ?h2) ?e2
      case h2 =>
        simp only [bastionref11_units.l0]
        rw [if_pos (by simp; omega), if_pos (by omega), if_pos (by simp; omega), rd_at, if_neg (by omega), ← hu, w64 (by omega) (by omega)]
      exact Ev.ite_pos (by omega) ih
theorem runits_ev (l : List UInt8) (h : l.length ≤ 100000000) : Ev (fun k => bastionref11_units.f k (B l)) (unitsL l) := by
  have h2 := uDec_length l.length l (Nat.le_refl _)
  unfold bastionref11_units.f
  refine (ref_Decode_ev l (by omega)).bind ?_
  have := runits_l0 (uDec l) [] [] (uDec_may _ l (Nat.le_refl _)) (by simp; omega) (by simp; omega)
  simpa [unitsL] using this
theorem ahead_l0 : ∀ (r s p q : List Int), p.length = q.length → p.length + r.length ≤ 1000000000 → q.length + s.length ≤ 1000000000 → Ev (fun k => bastionref11_ahead.l0 k (p ++ r) (q ++ s) (p.length : Int)) (lexLt r s)
  | r, [], p, q, hpq, h1, h2 => by
    have e : lexLt r [] = false := by cases r <;> rfl
    rw [e]
    have fin : Ev (fun k => bastionref11_ahead.j1 k (p ++ r) (q ++ []) (p.length : Int) false) false := by
      refine Ev.succ (f := fun _ => some false) (fun k => ?_) (Ev.now _)
      simp only [bastionref11_ahead.j1]
      rw [if_neg (by decide)]
      congr 1
      simp; omega
    refine Ev.succ (fun k => ?_) fin
    simp only [bastionref11_ahead.l0]
    rw [show decide ((p.length : Int) < ((q ++ ([] : List Int)).length : Int)) = false by simp; omega, ite_self]
  | [], y :: s, p, q, hpq, h1, h2 => by
    have fin : Ev (fun k => bastionref11_ahead.j1 k (p ++ []) (q ++ y :: s) (p.length : Int) false) true := by
      refine Ev.succ (f := fun _ => some true) (fun k => ?_) (Ev.now _)
      simp only [bastionref11_ahead.j1]
      rw [if_neg (by decide)]
      congr 1
      simp; omega
    refine Ev.succ (fun k => ?_) fin
    simp only [bastionref11_ahead.l0]
    rw [if_neg (by simp)]
  | x :: r, y :: s, p, q, hpq, h1, h2 => by
    simp only [List.length_cons] at h1 h2
    have ih := ahead_l0 r s (p ++ [x]) (q ++ [y]) (by simp; omega) (by simp; omega) (by simp; omega)
    rw [show (p ++ [x]) ++ r = p ++ x :: r by simp, show (q ++ [y]) ++ s = q ++ y :: s by simp, show (((p ++ [x]).length : Nat) : Int) = (p.length : Int) + 1 by simp] at ih
    have ey : rd (q ++ y :: s) (p.length : Int) = y := by rw [hpq]; exact rd_at q s y
    have fin : Ev (fun k => bastionref11_ahead.j1 k (p ++ x :: r) (q ++ y :: s) (p.length : Int) true) (lexLt (x :: r) (y :: s)) := by
      by_cases h : x = y
      · rw [lexLt, if_pos h]
        refine Ev.succ (fun k => ?_) ih
        simp only [bastionref11_ahead.j1]
        rw [if_pos trivial, if_pos (by omega), if_pos (by simp; omega), if_pos (by simp; omega), rd_at, ey, if_pos h, w64 (by omega) (by omega)]
      · rw [lexLt, if_neg h]
        refine Ev.succ (f := fun _ => some (decide (x < y))) (fun k => ?_) (Ev.now _)
        simp only [bastionref11_ahead.j1]
        rw [if_pos trivial, if_pos (by omega), if_pos (by simp; omega), if_pos (by simp; omega), rd_at, ey, if_neg h]
    refine Ev.succ (fun k => ?_) fin
    simp only [bastionref11_ahead.l0]
    rw [if_pos (by simp; omega), show decide ((p.length : Int) < ((q ++ y :: s).length : Int)) = true by simp; omega]
theorem ahead_ev (a b : List UInt8) (h1 : a.length ≤ 100000000) (h2 : b.length ≤ 100000000) : Ev (fun k => bastionref11_ahead.f k (B a) (B b)) (lexLt (unitsL a) (unitsL b)) := by
  have g1 := unitsL_len a
  have g2 := unitsL_len b
  unfold bastionref11_ahead.f
  exact (runits_ev a h1).bind ((runits_ev b h2).bind (ahead_l0 (unitsL a) (unitsL b) [] [] rfl (by simp; omega) (by simp; omega)))
theorem smallF_len {x : Fld} (h : smallF x) : (keyF x).length ≤ 100000000 := by
  unfold smallF at h; unfold keyF
  have : x.f0.data.toList.length = x.f0.size := by rw [Array.length_toList]; rfl
  omega
theorem B_key (x : Fld) : B (keyF x) = x.f0 := rfl
theorem rsort_l1 (l : List Fld) (x : Fld) (out : List Fld) (i : Int) (hx : smallF x) (ho : ∀ y ∈ out, smallF y) (hol : out.length ≤ 1073741824) (res : List Fld)
    (hnext : ∀ o, o = out.take (posR ltK x out out.length) ++ x :: out.drop (posR ltK x out out.length) → Ev (fun k => bastionref11_Sort.l0 k o l (l.length : Int) (wrap64 (i + 1))) res) :
    ∀ (n : Nat), n ≤ out.length → posR ltK x out n = posR ltK x out out.length → Ev (fun k => bastionref11_Sort.l1 k out (n : Int) l (l.length : Int) i x.f0 x.f1) res := by
  have fin : ∀ n, n ≤ out.length → n = posR ltK x out out.length → Ev (fun k => bastionref11_Sort.l0 k ((out.take n ++ [(⟨x.f0, x.f1⟩ : Fld)]) ++ ([] ++ out.drop n)) l (l.length : Int) (wrap64 (i + 1))) res := by
    intro n hn e
    have := hnext _ rfl
    rw [← e] at this
    rw [show (out.take n ++ [(⟨x.f0, x.f1⟩ : Fld)]) ++ ([] ++ out.drop n) = out.take n ++ x :: out.drop n by simp]
    exact this
  intro n
  induction n with
  | zero =>
    intro _ e
    have f0 := fin 0 (Nat.zero_le _) e
    refine Ev.succ (fun k => ?_) f0
    simp only [bastionref11_Sort.l1]
    rw [if_neg (by omega)]
    simp only [Option.bind_some, Int.toNat_natCast]
    rw [if_pos (by omega), if_pos (by omega), if_pos (by simp; omega), if_pos (by simp), if_pos (by simp; omega)]
  | succ n ih =>
    intro hn e
    have hg : rdF out (n : Int) = out[n]! := rdF_get out n (by omega)
    have hy : smallF out[n]! := by rw [getElem!_pos out n (by omega)]; exact ho _ (List.getElem_mem _)
    have ha := ahead_ev (keyF x) (keyF out[n]!) (smallF_len hx) (smallF_len hy)
    rw [B_key, B_key, ← hg] at ha
    have ew : wrap64 (((n + 1 : Nat) : Int) - 1) = (n : Int) := by rw [w64 (by omega) (by omega)]; omega
    refine Ev.succ (f := ?f2) (fun k => ?h2) ?e2
    case h2 =>
      simp only [bastionref11_Sort.l1]
      rw [ew, if_pos (by omega), if_pos (by omega), if_pos (by omega)]
    refine ha.bind ?_
    rw [hg]
    by_cases hlt : lexLt (keyU x) (keyU out[n]!) = true
    · have e' : posR ltK x out n = posR ltK x out out.length := by
        rw [← e, posR, if_pos hlt]
      exact Ev.ite_pos hlt (ih (by omega) e')
    · have e' : n + 1 = posR ltK x out out.length := by
        rw [← e, posR, if_neg hlt]
      refine Ev.ite_neg hlt ?_
      simp only [Option.bind_some, Int.toNat_natCast]
      refine Ev.ite_pos (by omega) (Ev.ite_pos (by omega) (Ev.ite_pos (by simp; omega) (Ev.ite_pos (by simp; omega) (Ev.ite_pos (by simp; omega) ?_))))
      exact fin (n + 1) hn e'
theorem rsort_l0 (l : List Fld) (hl : l.length ≤ 1073741824) (hs : ∀ x ∈ l, smallF x) : ∀ (r p : List Fld), p ++ r = l → Ev (fun k => bastionref11_Sort.l0 k (sortL p) l (l.length : Int) (p.length : Int)) (sortL l)
  | [], p, hp => by
    have hp' : p = l := by simpa using hp
    subst hp'
    refine Ev.succ (f := fun _ => some (sortL p)) (fun k => ?_) (Ev.now _)
    simp only [bastionref11_Sort.l0]
    rw [if_neg (by omega)]
  | x :: r, p, hp => by
    have hpl : l.length = p.length + 1 + r.length := by rw [← hp]; simp; omega
    have ex : rd_T32 l (p.length : Int) = x := by rw [← hp]; exact rdF_end p r x _ rfl
    have ih := rsort_l0 l hl hs r (p ++ [x]) (by simpa using hp)
    rw [show (((p ++ [x]).length : Nat) : Int) = wrap64 ((p.length : Int) + 1) by rw [w64 (by omega) (by omega)]; simp] at ih
    have hsl := sortL_length p
    refine Ev.succ (f := ?f) (fun k => ?h) ?e
    case h =>
      simp only [bastionref11_Sort.l0]
      rw [if_pos (by omega), if_pos (by omega), if_pos (by omega), ex]
    refine rsort_l1 l x (sortL p) (p.length : Int) (hs x (by rw [← hp]; simp)) (fun y hy => hs y (by rw [← hp]; exact List.mem_append_left _ (sortL_mem p y hy))) (by omega) (sortL l) ?_ _ (Nat.le_refl _) rfl
    intro o ho
    have e : o = sortL (p ++ [x]) := by
      rw [ho]
      have e1 : (sortL p).take (posR ltK x (sortL p) (sortL p).length) ++ x :: (sortL p).drop (posR ltK x (sortL p) (sortL p).length) = mrg (leq ltK) (sortL p) [x] :=
        posR_list (lex_tr keyU) x (sortL p) (sortL_sd p) _ (Nat.le_refl _) (fun y hy => by rw [List.drop_length] at hy; cases hy)
      rw [e1]
      unfold sortL
      exact (stab_snoc (lex_tot keyU) (lex_tr keyU) p x).symm
    rw [e]; exact ih
theorem QueryChanges_pure (l : List Fld) (n vv : ByteArray) (hl : l.length ≤ 1048576) (hs : ∀ x ∈ l, smallF x) : ∃ k, bastionlaw11_QueryChanges.f k l n vv = some true := by
  refine Ev.rounds (g := fun k => bastionlaw11_QueryChanges.f k l n vv) ?_
  unfold bastionlaw11_QueryChanges.f
  have hlen := drop_put_len n vv l
  have hdl : (dropN n.data.toList l).length ≤ l.length := List.length_filter_le _ _
  have hsl := sortL_length l
  simp only [Option.bind_some, List.nil_append, List.length_nil]
  refine Ev.ite_pos (by omega) ((Ev.const (find_f l n (by omega))).bind ((rfind_l0 l n (by omega) l [] rfl).bind (qlives_ev.bind (Ev.ite_pos rfl (Ev.ite_pos rfl (Ev.ite_pos (by simp) ((Ev.const (put_f l n vv (by omega))).bind ?_)))))))
  have hput := rput_l0 l n vv (by omega) l [] [] false rfl (by simp; omega)
  rw [Ql.putR_false, ← putN_eq, List.nil_append] at hput
  refine hput.bind ((sameF_refl _ (by omega)).bind (Ev.ite_pos rfl ((Ev.const (drop_f l n (by omega))).bind ?_)))
  have hdrop := rdrop_l0 l n (by omega) l [] [] rfl (by simp; omega)
  rw [List.nil_append] at hdrop
  refine hdrop.bind ((sameF_refl _ (by omega)).bind (Ev.ite_pos rfl ((Ev.const (sort_f l (by omega) hs)).bind ?_)))
  refine (rsort_l0 l (by omega) hs l [] rfl).bind ((sameF_refl _ (by omega)).bind (Ev.ite_pos rfl ((sameF_refl _ (by omega)).bind (Ev.now _))))
theorem queryChanges_pure (l : List Fld) (n vv : ByteArray) (h : mFlds l + n.size + vv.size ≤ 1048576) : ∃ k, bastionlaw11_QueryChanges.f k l n vv = some true :=
  QueryChanges_pure l n vv (by have := mFlds_len l; omega) (fun x hx => by have := mFlds_mem l x hx; unfold smallF; omega)
end Go.Proofs.YtbcbmmlpgdndpaaDoor.Q
