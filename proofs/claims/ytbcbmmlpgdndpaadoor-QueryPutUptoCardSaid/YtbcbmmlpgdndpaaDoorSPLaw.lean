/- The law QueryPut, plain. -/
import Derived.Test.YtbcbmmlpgdndpaaDoorSQPut
import Derived.Test.YtbcbmmlpgdndpaaDoorSB7
import Derived.Test.YtbcbmmlpgdndpaaDoorSB8
import Derived.Test.YtbcbmmlpgdndpaaDoorSTabsQ
import Derived.Test.YtbcbmmlpgdndpaaDoorSQQueryPut
set_option linter.unusedSimpArgs false
set_option linter.unusedVariables false
namespace Go.Proofs.YtbcbmmlpgdndpaaDoor.Q
open Go.RowKit Go.Proofs.YtbcbmmlpgdndpaaDoorW.PrintWords Go.Proofs.YtbcbmmlpgdndpaaDoorW.PrintLast Go.Proofs.YtbcbmmlpgdndpaaDoorW.PrintMore Go.Proofs.YtbcbmmlpgdndpaaDoor.P1 Go.Proofs.YtbcbmmlpgdndpaaDoor.R Go.Proofs.YtbcbmmlpgdndpaaDoor.Qu
theorem hasN_eq (n : List UInt8) : hasN n = Ql.has keyF n := by
  funext x
  unfold hasN Ql.has
  rw [Bool.eq_iff_iff]; simp
theorem lackN_eq (n : List UInt8) : lackN n = Ql.lack keyF n := by
  funext x
  unfold lackN
  rw [Ql.lack_not, hasN_eq]
theorem dropN_eq (n : List UInt8) (l : List Fld) : dropN n l = Ql.dropS keyF n l := by unfold dropN Ql.dropS; rw [lackN_eq]
theorem putN_eq (n vv : ByteArray) (l : List Fld) : putN n vv l = Ql.putS keyF n.data.toList ⟨n, vv⟩ l := by
  induction l with
  | nil => rfl
  | cons x l ih =>
    rw [Ql.putS]
    by_cases h : keyF x = n.data.toList
    · have hh : hasN n.data.toList x = true := by unfold hasN; simpa using h
      have hl : lackN n.data.toList x = false := by unfold lackN; rw [hh]; rfl
      rw [if_pos h]
      unfold putN findQ
      rw [List.find?_cons_of_pos hh]
      simp only
      rw [List.takeWhile_cons_of_neg (by rw [hl]; decide), List.dropWhile_cons_of_neg (by rw [hl]; decide)]
      unfold dropN
      rw [List.filter_cons_of_neg (by rw [hl]; decide), lackN_eq]
      rfl
    · have hh : hasN n.data.toList x = false := by unfold hasN; simpa using h
      have hl : lackN n.data.toList x = true := by unfold lackN; rw [hh]; rfl
      rw [if_neg h, ← ih]
      unfold putN findQ
      rw [List.find?_cons_of_neg (by rw [hh]; decide)]
      cases hf : l.find? (hasN n.data.toList) with
      | none => rfl
      | some y =>
        simp only
        rw [List.takeWhile_cons_of_pos hl, List.dropWhile_cons_of_pos hl]
        rfl
theorem key_mk (n vv : ByteArray) : keyF ⟨n, vv⟩ = n.data.toList := rfl
theorem find_put (n vv : ByteArray) (l : List Fld) : findQ n.data.toList (putN n vv l) = some ⟨n, vv⟩ := by
  unfold findQ; rw [putN_eq, hasN_eq]; exact Ql.find_putS keyF _ _ (key_mk n vv) l
theorem find_drop (n : List UInt8) (l : List Fld) : findQ n (dropN n l) = none := by
  unfold findQ; rw [dropN_eq, hasN_eq]; exact Ql.find_dropS keyF _ l
theorem count_put (n vv : ByteArray) (l : List Fld) : ((putN n vv l).filter (hasN n.data.toList)).length = 1 := by
  rw [putN_eq, hasN_eq]; exact Ql.count_putS keyF _ _ (key_mk n vv) l
theorem drop_put (n vv : ByteArray) (l : List Fld) : dropN n.data.toList (putN n vv l) = dropN n.data.toList l := by
  rw [dropN_eq, dropN_eq, putN_eq]; exact Ql.drop_putS keyF _ _ (key_mk n vv) l
theorem drop_put_len (n vv : ByteArray) (l : List Fld) : (dropN n.data.toList l).length + 1 = (putN n vv l).length := by
  rw [dropN_eq, putN_eq]; exact Ql.dropS_length keyF _ _ (key_mk n vv) l
theorem put_f (l : List Fld) (n vv : ByteArray) (h : l.length ≤ 1073741824) : query_Put.f l n vv = some (putN n vv l) := if_pos h
theorem drop_f (l : List Fld) (n : ByteArray) (h : l.length ≤ 1073741824) : query_Drop.f l n = some (dropN n.data.toList l) := if_pos h
theorem find_f (l : List Fld) (n : ByteArray) (h : l.length ≤ 1073741824) : query_Find.f l n = some (valF (findQ n.data.toList l)) := if_pos h
theorem put_l0 (l : List Fld) (n vv : ByteArray) (hl : l.length ≤ 1048576) : ∀ (r p : List Fld), p ++ r = putN n vv l →
    Ev (fun k => bastionlaw11_QueryPut.l0 k l n vv (putN n vv l) vv true (((p.filter (hasN n.data.toList)).length : Nat) : Int) (putN n vv l) ((putN n vv l).length : Int) (p.length : Int)) true
  | [], p, hp => by
    have hlen := drop_put_len n vv l
    have hdl : (dropN n.data.toList l).length ≤ l.length := List.length_filter_le _ _
    have hp' : p = putN n vv l := by simpa using hp
    have hc := count_put n vv l
    rw [← hp'] at hc
    refine Ev.succ (f := ?f) (fun k => ?h) ?e
    case h =>
      simp only [bastionlaw11_QueryPut.l0]
      rw [if_neg (by rw [hp']; omega)]
    refine (Ev.const (drop_f _ n (by omega))).bind ?_
    rw [drop_put]
    refine (Ev.const (find_f _ n (by omega))).bind ?_
    rw [find_drop]
    refine Ev.ite_pos (by trivial) (Ev.ite_pos (by trivial) (Ev.ite_pos (by rw [hc]; rfl) (Ev.ite_neg (by decide) ((Ev.const (drop_f l n (by omega))).bind ((sameF_refl _ (by omega)).bind (Ev.ite_pos rfl ?_))))))
    rw [w64 (by omega) (by omega)]
    have : ((((dropN n.data.toList l).length : Int) == ((putN n vv l).length : Int) - 1)) = true := by rw [beq_iff_eq]; omega
    rw [this]
    exact Ev.now _
  | x :: r, p, hp => by
    have hlen := drop_put_len n vv l
    have hdl : (dropN n.data.toList l).length ≤ l.length := List.length_filter_le _ _
    have hpl : (putN n vv l).length = p.length + 1 + r.length := by rw [← hp]; simp; omega
    have hx : rd_T32 (putN n vv l) (p.length : Int) = x := by rw [← hp]; exact rdF_end p r x _ rfl
    have hfl : (p.filter (hasN n.data.toList)).length ≤ p.length := List.length_filter_le _ _
    have ih := put_l0 l n vv hl r (p ++ [x]) (by simpa using hp)
    rw [List.filter_append] at ih
    by_cases h : hasN n.data.toList x = true
    · rw [List.filter_cons_of_pos h, List.filter_nil, List.length_append, List.length_append] at ih
      refine Ev.succ (fun k => ?_) ih
      simp only [bastionlaw11_QueryPut.l0]
      rw [if_pos (by omega), if_pos (by omega), if_pos (by omega), hx, if_pos (by
        unfold hasN keyF at h
        rw [Go.ByteArray.toList_eq, Go.ByteArray.toList_eq]; simpa using h), w64 (by omega) (by omega), w64 (by omega) (by omega)]
      simp
    · rw [List.filter_cons_of_neg h, List.filter_nil, List.append_nil, List.length_append] at ih
      refine Ev.succ (fun k => ?_) ih
      simp only [bastionlaw11_QueryPut.l0]
      rw [if_pos (by omega), if_pos (by omega), if_pos (by omega), hx, if_neg (by
        unfold hasN keyF at h
        rw [Go.ByteArray.toList_eq, Go.ByteArray.toList_eq]; simpa using h), w64 (by omega) (by omega)]
      simp
theorem QueryPut_pure (l : List Fld) (n vv : ByteArray) (hl : l.length ≤ 1048576) : ∃ k, bastionlaw11_QueryPut.f k l n vv = some true := by
  refine Ev.rounds (g := fun k => bastionlaw11_QueryPut.f k l n vv) ?_
  unfold bastionlaw11_QueryPut.f
  have hlen := drop_put_len n vv l
  have hdl : (dropN n.data.toList l).length ≤ l.length := List.length_filter_le _ _
  refine qlives_ev.bind (Ev.ite_pos rfl ((Ev.const (put_f l n vv (by omega))).bind ((Ev.const (find_f _ n (by omega))).bind ?_)))
  rw [find_put]
  exact put_l0 l n vv hl (putN n vv l) [] rfl
theorem queryPut_pure (l : List Fld) (n vv : ByteArray) (h : mFlds l + n.size + vv.size ≤ 1048576) : ∃ k, bastionlaw11_QueryPut.f k l n vv = some true :=
  QueryPut_pure l n vv (by have := mFlds_len l; omega)
end Go.Proofs.YtbcbmmlpgdndpaaDoor.Q
