/- query.Drop: what it answers; slices.DeleteFunc of fields in a row of their own. -/
/- query.Put: what it answers. -/
/- What bastionref01.In and Encode answer; encoding and decoding undo one another, on lists of bytes. -/
/- Functions of the given program as plain Lean functions, each with the proof that the machine answers as it does; laid by a program of mine over the kit print. -/
/- The document's answers of layer 11, plain. -/
/- Functions of the given program as plain Lean functions, each with the proof that the machine answers as it does; laid by a program of mine over the kit print. -/
import Derived.Test.YtbcbmmlpgdndpaaDoorSB9
import Derived.Lib.SliceRun
import Derived.ArgAppend
import Derived.Lib.AppendZeros
import Derived.Test.YtbcbmmlpgdndpaaDoorSB7
import Derived.Test.YtbcbmmlpgdndpaaDoorSB4
import Derived.Test.YtbcbmmlpgdndpaaDoorSQPrint
import Derived.Test.YtbcbmmlpgdndpaaDoorSQParse
import Derived.Test.YtbcbmmlpgdndpaaDoorSQbastionref110
import Derived.Test.YtbcbmmlpgdndpaaDoorSQbastionlaw112
section
set_option linter.unusedSimpArgs false
set_option linter.unusedVariables false
namespace Go.Proofs.YtbcbmmlpgdndpaaDoor.Q
open Go.RowKit Go.Proofs.YtbcbmmlpgdndpaaDoorW.PrintWords Go.Proofs.YtbcbmmlpgdndpaaDoorW.PrintLast Go.Proofs.YtbcbmmlpgdndpaaDoorW.PrintMore Go.Proofs.YtbcbmmlpgdndpaaDoor.R Go.Proofs.YtbcbmmlpgdndpaaDoor.P1
def lackN (n : List UInt8) (x : Fld) : Bool := !hasN n x
def dropN (n : List UInt8) (l : List Fld) : List Fld := l.filter (lackN n)
theorem dropN_take (n : List UInt8) (l : List Fld) (j : Nat) (hj : j < l.length) : dropN n (l.take (j + 1)) = dropN n (l.take j) ++ (if hasN n l[j] then [] else [l[j]]) := by
  unfold dropN
  rw [List.take_succ_eq_append_getElem hj, List.filter_append]
  congr 1
  unfold lackN
  by_cases h : hasN n l[j] = true
  · rw [if_pos h, List.filter_cons_of_neg (by rw [h]; decide)]; rfl
  · rw [if_neg h, List.filter_cons_of_pos (by simpa using h)]; rfl
/-- what stands between two rounds -/
structure DelSt (n : List UInt8) (l m' : List Fld) (i j : Nat) : Prop where
  lt : i < j
  le : j ≤ l.length
  len : m'.length = l.length
  front : m'.take i = dropN n (l.take j)
  back : m'.drop j = l.drop j
theorem DelSt.at {n : List UInt8} {l m' : List Fld} {i j : Nat} (h : DelSt n l m' i j) (hj : j < l.length) : m'[j]? = some l[j] := by
  have := congrArg (fun t => t[0]?) h.back
  simp only [List.getElem?_drop, Nat.add_zero] at this
  rw [this, List.getElem?_eq_getElem hj]
theorem DelSt.skip {n : List UInt8} {l m' : List Fld} {i j : Nat} (h : DelSt n l m' i j) (hj : j < l.length) (hq : hasN n l[j] = true) : DelSt n l m' i (j + 1) := by
  refine ⟨by have := h.lt; omega, by omega, h.len, ?_, ?_⟩
  · rw [dropN_take n l j hj, if_pos hq, List.append_nil]; exact h.front
  · rw [← List.drop_drop, h.back, List.drop_drop]
theorem DelSt.done {n : List UInt8} {l m' : List Fld} {i j : Nat} (h : DelSt n l m' i j) (hj : j = l.length) : m'.take i = dropN n l := by
  subst hj
  have := h.front
  rwa [List.take_length] at this
end Go.Proofs.YtbcbmmlpgdndpaaDoor.Q
end
section
set_option linter.unusedSimpArgs false
set_option linter.unusedVariables false
namespace Go.Proofs.YtbcbmmlpgdndpaaDoor.Q
open Go.RowKit Go.Proofs.YtbcbmmlpgdndpaaDoorW.PrintWords Go.Proofs.YtbcbmmlpgdndpaaDoorW.PrintLast Go.Proofs.YtbcbmmlpgdndpaaDoorW.PrintMore Go.Proofs.YtbcbmmlpgdndpaaDoor.R Go.Proofs.YtbcbmmlpgdndpaaDoor.P1
end Go.Proofs.YtbcbmmlpgdndpaaDoor.Q
end
section
namespace Go.Proofs.YtbcbmmlpgdndpaaDoor.Q.Pc
open Go.RowKit Go.Proofs.YtbcbmmlpgdndpaaDoorW.PrintWords Go.Proofs.YtbcbmmlpgdndpaaDoorW.PrintLast Go.Proofs.YtbcbmmlpgdndpaaDoorW.PrintMore Go.Proofs.YtbcbmmlpgdndpaaDoor.P1
set_option linter.unusedSimpArgs false
set_option linter.unusedVariables false
end Go.Proofs.YtbcbmmlpgdndpaaDoor.Q.Pc
end
section
namespace Go.Proofs.YtbcbmmlpgdndpaaDoor.Q
open Go.RowKit Go.Proofs.YtbcbmmlpgdndpaaDoorW.PrintWords Go.Proofs.YtbcbmmlpgdndpaaDoorW.PrintLast Go.Proofs.YtbcbmmlpgdndpaaDoorW.PrintMore
attribute [local go_sem] max2_int min2_int max_two min_two max_three min_three max_four min_four
set_option linter.unusedVariables false
set_option linter.unusedSimpArgs false
end Go.Proofs.YtbcbmmlpgdndpaaDoor.Q
end
section
set_option linter.unusedSimpArgs false
set_option linter.unusedVariables false
namespace Go.Proofs.YtbcbmmlpgdndpaaDoor.Q
open Go.RowKit Go.Proofs.YtbcbmmlpgdndpaaDoorW.PrintWords Go.Proofs.YtbcbmmlpgdndpaaDoorW.PrintLast Go.Proofs.YtbcbmmlpgdndpaaDoorW.PrintMore Go.Proofs.YtbcbmmlpgdndpaaDoor.P1 Go.Proofs.YtbcbmmlpgdndpaaDoor.R Go.Proofs.YtbcbmmlpgdndpaaDoor.Qu
theorem pt_inj {a b : Fld} (h : pt a = pt b) : a = b := by
  obtain ⟨a0, a1⟩ := a
  obtain ⟨b0, b1⟩ := b
  unfold pt at h
  simp only [Prod.mk.injEq] at h
  obtain ⟨h0, h1⟩ := h
  have e0 : a0 = b0 := by apply ByteArray.ext; exact Array.toList_inj.1 h0
  have e1 : a1 = b1 := by apply ByteArray.ext; exact Array.toList_inj.1 h1
  rw [e0, e1]
theorem rdF_end (p r : List Fld) (x : Fld) (i : Int) (h : i = (p.length : Int)) : rd_T32 (p ++ x :: r) i = x := by subst h; simp [rd_T32]
theorem sameF_l0 (n : Nat) : ∀ (r s p q : List Fld) (k : Nat), r.length ≤ n → n + 2 ≤ k → r.length = s.length → p.length = q.length → p.length + r.length ≤ 140737488355000 →
    bastionref11_Same.l0 k (p ++ r) (q ++ s) ((p ++ r).length : Int) p.length = some (decide (r.map pt = s.map pt)) := by
  induction n with
  | zero =>
    intro r s p q k hl hk hrs hpq hsz
    obtain ⟨k, rfl⟩ : ∃ m, k = m + 1 := ⟨k - 1, by omega⟩
    obtain rfl : r = [] := List.eq_nil_of_length_eq_zero (by omega)
    obtain rfl : s = [] := List.eq_nil_of_length_eq_zero (by simpa using hrs.symm)
    simp only [bastionref11_Same.l0]
    rw [if_neg (by simp)]; simp
  | succ n ih =>
    intro r s p q k hl hk hrs hpq hsz
    obtain ⟨k, rfl⟩ : ∃ m, k = m + 1 := ⟨k - 1, by omega⟩
    simp only [bastionref11_Same.l0]
    cases r with
    | nil =>
      obtain rfl : s = [] := List.eq_nil_of_length_eq_zero (by simpa using hrs.symm)
      rw [if_neg (by simp)]; simp
    | cons c r =>
      cases s with
      | nil => simp at hrs
      | cons d s =>
        simp only [List.length_cons] at hl hrs hsz
        rw [if_pos (by simp; omega), if_pos (by omega), if_pos (by simp; omega), if_pos (by simp; omega), rdF_end p r c _ rfl, rdF_end q s d _ (by omega)]
        by_cases e : pt c = pt d
        · have e0 : c = d := pt_inj e
          subst e0
          rw [if_neg (by simp), w64 (by omega) (by omega)]
          have := ih r s (p ++ [c]) (q ++ [c]) k (by omega) (by omega) (by omega) (by simp; omega) (by simp; omega)
          rw [show (p ++ [c]) ++ r = p ++ c :: r by simp, show (q ++ [c]) ++ s = q ++ c :: s by simp, show (((p ++ [c]).length : Nat) : Int) = (p.length : Int) + 1 by simp] at this
          rw [this]; simp
        · rw [if_pos (by
            rw [Go.ByteArray.toList_eq, Go.ByteArray.toList_eq, Go.ByteArray.toList_eq, Go.ByteArray.toList_eq]
            unfold pt at e
            simp only [Prod.mk.injEq, not_and] at e
            simp only [Bool.or_eq_true, Bool.not_eq_true', beq_eq_false_iff_ne, ne_eq]
            by_cases h : c.f0.data.toList = d.f0.data.toList
            · exact .inr (e h)
            · exact .inl h)]
          simp [e]
theorem sameF_ev (a b : List Fld) (h : a.length ≤ 140737488355000) : Ev (fun k => bastionref11_Same.f k a b) (decide (a.map pt = b.map pt)) := Ev.mk (a.length + 2) fun k hk => by
  unfold bastionref11_Same.f
  by_cases e : a.length = b.length
  · rw [if_pos (by omega)]
    have := sameF_l0 a.length a b [] [] k (Nat.le_refl _) hk e rfl (by simp; omega)
    simpa using this
  · rw [if_neg (by omega), decide_eq_false (by intro h; exact e (by have := congrArg List.length h; simpa using this))]
theorem sameF_refl (a : List Fld) (h : a.length ≤ 140737488355000) : Ev (fun k => bastionref11_Same.f k a a) true := by
  have := sameF_ev a a h
  rwa [decide_eq_true rfl] at this
theorem bt_at (p r : List UInt8) (c : UInt8) : bt (B (p ++ c :: r)) (p.length : Int) = (c.toNat : Int) := bt_end0 p r c _ rfl
end Go.Proofs.YtbcbmmlpgdndpaaDoor.Q
end
section
namespace Go.Proofs.YtbcbmmlpgdndpaaDoor.Q
open Go.RowKit Go.Proofs.YtbcbmmlpgdndpaaDoorW.PrintWords Go.Proofs.YtbcbmmlpgdndpaaDoorW.PrintLast Go.Proofs.YtbcbmmlpgdndpaaDoorW.PrintMore
attribute [local go_sem] max2_int min2_int max_two min_two max_three min_three max_four min_four
set_option linter.unusedVariables false
set_option linter.unusedSimpArgs false
end Go.Proofs.YtbcbmmlpgdndpaaDoor.Q
end
