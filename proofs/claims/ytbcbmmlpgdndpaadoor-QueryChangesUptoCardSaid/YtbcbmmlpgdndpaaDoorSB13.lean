/- The document's answers of layer 11, plain. -/
/- Functions of the given program as plain Lean functions, each with the proof that the machine answers as it does; laid by a program of mine over the kit print. -/
/- Functions of the given program as plain Lean functions, each with the proof that the machine answers as it does; laid by a program of mine over the kit print. -/
/- Functions of the given program as plain Lean functions, each with the proof that the machine answers as it does; laid by a program of mine over the kit print. -/
/- The laws QueryTexts, QueryBack, QueryJoins, plain. -/
/- Forms opened. -/
/- Functions of the given program as plain Lean functions, each with the proof that the machine answers as it does; laid by a program of mine over the kit print. -/
/- The law QueryPut, plain. -/
/- Functions of the given program as plain Lean functions, each with the proof that the machine answers as it does; laid by a program of mine over the kit print. -/
/- The laws QuerySorted and QueryChanges, plain. -/
import Derived.Test.YtbcbmmlpgdndpaaDoorSQPrint
import Derived.Test.YtbcbmmlpgdndpaaDoorSQParse
import Derived.Test.YtbcbmmlpgdndpaaDoorSB10
import Derived.Test.YtbcbmmlpgdndpaaDoorSB12
import Derived.Test.YtbcbmmlpgdndpaaDoorSQbastionref110
import Derived.Test.YtbcbmmlpgdndpaaDoorSB3
import Derived.Test.YtbcbmmlpgdndpaaDoorSQbastionlaw112
import Derived.Test.YtbcbmmlpgdndpaaDoorSB6
import Derived.Test.YtbcbmmlpgdndpaaDoorSB11
import Derived.Test.YtbcbmmlpgdndpaaDoorSQDrop
import Derived.Test.YtbcbmmlpgdndpaaDoorSB5
import Derived.Test.YtbcbmmlpgdndpaaDoorSQPut
section
set_option linter.unusedSimpArgs false
set_option linter.unusedVariables false
namespace Go.Proofs.YtbcbmmlpgdndpaaDoor.Q
open Go.RowKit Go.Proofs.YtbcbmmlpgdndpaaDoorW.PrintWords Go.Proofs.YtbcbmmlpgdndpaaDoorW.PrintLast Go.Proofs.YtbcbmmlpgdndpaaDoorW.PrintMore Go.Proofs.YtbcbmmlpgdndpaaDoor.P1 Go.Proofs.YtbcbmmlpgdndpaaDoor.R Go.Proofs.YtbcbmmlpgdndpaaDoor.Qu
theorem pt_inj {a b : Fld} (h : pt a = pt b) : a = b := by
  obtain ⟨a0, a1⟩ := a
  obtain ⟨b0, b1⟩ := b
  unfold pt at h
  simp only [Prod.mk.injEq] at h
  obtain ⟨h0, h1⟩ := h
  have e0 : a0 = b0 := by apply ByteArray.ext; exact Array.toList_inj.1 h0
  have e1 : a1 = b1 := by apply ByteArray.ext; exact Array.toList_inj.1 h1
  rw [e0, e1]
theorem rdF_end (p r : List Fld) (x : Fld) (i : Int) (h : i = (p.length : Int)) : rd_T32 (p ++ x :: r) i = x := by subst h; simp [rd_T32]
theorem sameF_l0 (n : Nat) : ∀ (r s p q : List Fld) (k : Nat), r.length ≤ n → n + 2 ≤ k → r.length = s.length → p.length = q.length → p.length + r.length ≤ 140737488355000 →
    bastionref11_Same.l0 k (p ++ r) (q ++ s) ((p ++ r).length : Int) p.length = some (decide (r.map pt = s.map pt)) := by
  induction n with
  | zero =>
    intro r s p q k hl hk hrs hpq hsz
    obtain ⟨k, rfl⟩ : ∃ m, k = m + 1 := ⟨k - 1, by omega⟩
    obtain rfl : r = [] := List.eq_nil_of_length_eq_zero (by omega)
    obtain rfl : s = [] := List.eq_nil_of_length_eq_zero (by simpa using hrs.symm)
    simp only [bastionref11_Same.l0]
    rw [if_neg (by simp)]; simp
  | succ n ih =>
    intro r s p q k hl hk hrs hpq hsz
    obtain ⟨k, rfl⟩ : ∃ m, k = m + 1 := ⟨k - 1, by omega⟩
    simp only [bastionref11_Same.l0]
    cases r with
    | nil =>
      obtain rfl : s = [] := List.eq_nil_of_length_eq_zero (by simpa using hrs.symm)
      rw [if_neg (by simp)]; simp
    | cons c r =>
      cases s with
      | nil => simp at hrs
      | cons d s =>
        simp only [List.length_cons] at hl hrs hsz
        rw [if_pos (by simp; omega), if_pos (by omega), if_pos (by simp; omega), if_pos (by simp; omega), rdF_end p r c _ rfl, rdF_end q s d _ (by omega)]
        by_cases e : pt c = pt d
        · have e0 : c = d := pt_inj e
          subst e0
          rw [if_neg (by simp), w64 (by omega) (by omega)]
          have := ih r s (p ++ [c]) (q ++ [c]) k (by omega) (by omega) (by omega) (by simp; omega) (by simp; omega)
          rw [show (p ++ [c]) ++ r = p ++ c :: r by simp, show (q ++ [c]) ++ s = q ++ c :: s by simp, show (((p ++ [c]).length : Nat) : Int) = (p.length : Int) + 1 by simp] at this
          rw [this]; simp
        · rw [if_pos (by
            rw [Go.ByteArray.toList_eq, Go.ByteArray.toList_eq, Go.ByteArray.toList_eq, Go.ByteArray.toList_eq]
            unfold pt at e
            simp only [Prod.mk.injEq, not_and] at e
            simp only [Bool.or_eq_true, Bool.not_eq_true', beq_eq_false_iff_ne, ne_eq]
            by_cases h : c.f0.data.toList = d.f0.data.toList
            · exact .inr (e h)
            · exact .inl h)]
          simp [e]
theorem sameF_ev (a b : List Fld) (h : a.length ≤ 140737488355000) : Ev (fun k => bastionref11_Same.f k a b) (decide (a.map pt = b.map pt)) := Ev.mk (a.length + 2) fun k hk => by
  unfold bastionref11_Same.f
  by_cases e : a.length = b.length
  · rw [if_pos (by omega)]
    have := sameF_l0 a.length a b [] [] k (Nat.le_refl _) hk e rfl (by simp; omega)
    simpa using this
  · rw [if_neg (by omega), decide_eq_false (by intro h; exact e (by have := congrArg List.length h; simpa using this))]
theorem sameF_refl (a : List Fld) (h : a.length ≤ 140737488355000) : Ev (fun k => bastionref11_Same.f k a a) true := by
  have := sameF_ev a a h
  rwa [decide_eq_true rfl] at this
theorem bt_at (p r : List UInt8) (c : UInt8) : bt (B (p ++ c :: r)) (p.length : Int) = (c.toNat : Int) := bt_end0 p r c _ rfl
end Go.Proofs.YtbcbmmlpgdndpaaDoor.Q
end
section
namespace Go.Proofs.YtbcbmmlpgdndpaaDoor.Q
open Go.RowKit Go.Proofs.YtbcbmmlpgdndpaaDoorW.PrintWords Go.Proofs.YtbcbmmlpgdndpaaDoorW.PrintLast Go.Proofs.YtbcbmmlpgdndpaaDoorW.PrintMore
attribute [local go_sem] max2_int min2_int max_two min_two max_three min_three max_four min_four
set_option linter.unusedVariables false
set_option linter.unusedSimpArgs false
end Go.Proofs.YtbcbmmlpgdndpaaDoor.Q
end
section
namespace Go.Proofs.YtbcbmmlpgdndpaaDoor.Q
open Go.RowKit Go.Proofs.YtbcbmmlpgdndpaaDoorW.PrintWords Go.Proofs.YtbcbmmlpgdndpaaDoorW.PrintLast Go.Proofs.YtbcbmmlpgdndpaaDoorW.PrintMore
attribute [local go_sem] max2_int min2_int max_two min_two max_three min_three max_four min_four
set_option linter.unusedVariables false
set_option linter.unusedSimpArgs false
end Go.Proofs.YtbcbmmlpgdndpaaDoor.Q
end
section
namespace Go.Proofs.YtbcbmmlpgdndpaaDoor.Q
open Go.RowKit Go.Proofs.YtbcbmmlpgdndpaaDoorW.PrintWords Go.Proofs.YtbcbmmlpgdndpaaDoorW.PrintLast Go.Proofs.YtbcbmmlpgdndpaaDoorW.PrintMore
attribute [local go_sem] max2_int min2_int max_two min_two max_three min_three max_four min_four
set_option linter.unusedVariables false
set_option linter.unusedSimpArgs false
end Go.Proofs.YtbcbmmlpgdndpaaDoor.Q
end
section
set_option linter.unusedSimpArgs false
set_option linter.unusedVariables false
namespace Go.Proofs.YtbcbmmlpgdndpaaDoor.Q
open Go.RowKit Go.Proofs.YtbcbmmlpgdndpaaDoorW.PrintWords Go.Proofs.YtbcbmmlpgdndpaaDoorW.PrintLast Go.Proofs.YtbcbmmlpgdndpaaDoorW.PrintMore Go.Proofs.YtbcbmmlpgdndpaaDoor.P1 Go.Proofs.YtbcbmmlpgdndpaaDoor.R Go.Proofs.YtbcbmmlpgdndpaaDoor.Qu
theorem qlives_now : bastionlaw11_lives.f 100 = some true := by decide +kernel
theorem qlives_ev : Ev (fun k => bastionlaw11_lives.f k) true := Ev.of (fun k => bastionlaw11_lives.mono k) qlives_now
end Go.Proofs.YtbcbmmlpgdndpaaDoor.Q
end
section
set_option linter.unusedSimpArgs false
set_option linter.unusedVariables false
namespace Go.Proofs.YtbcbmmlpgdndpaaDoor.Q
open Go.RowKit Go.Proofs.YtbcbmmlpgdndpaaDoorW.PrintWords Go.Deep Go.ChangeShapes Go.WideShapes
def mStr (s : ByteArray) : Nat := s.size + 1
def mFld (d : S32) : Nat := mStr d.f0 + mStr d.f1 + 1
def mFlds (l : List S32) : Nat := (l.map mFld).sum + 1
theorem mFld_one (d : S32) : 1 ≤ mFld d := by unfold mFld; omega
theorem mFlds_len (l : List S32) : l.length ≤ mFlds l := by have := sum_len mFld mFld_one l; unfold mFlds; omega
theorem mFlds_mem (l : List S32) (x : S32) (h : x ∈ l) : x.f0.size + x.f1.size ≤ mFlds l := by
  have := sum_mem mFld l x h
  unfold mFld mStr at this
  unfold mFlds; unfold mFld mStr; omega
section
variable {H : Type} {enc : TypeId × Value → H} {w : World} {base : Nat} {spare : Nat → Bool} {held : Bool}
theorem opens_fld : Opens enc Tryd.prog w base spare held k32 32 mFld :=
  opens_iso (fun x : S32 => (x.f0, x.f1)) (fun p => ⟨p.1, p.2⟩) (fun _ => rfl) (opens_pair Tryd.underlying32 rfl (by kernel_rfl) (by kernel_rfl) (opens_string Tryd.underlying9) (opens_string Tryd.underlying9))
theorem opens_flds : Opens enc Tryd.prog w base spare held (Kd.slice 32 k32) 22 mFlds := opens_slice Tryd.underlying22 (by kernel_rfl) opens_fld
end
end Go.Proofs.YtbcbmmlpgdndpaaDoor.Q
end
section
namespace Go.Proofs.YtbcbmmlpgdndpaaDoor.Q
open Go.RowKit Go.Proofs.YtbcbmmlpgdndpaaDoorW.PrintWords Go.Proofs.YtbcbmmlpgdndpaaDoorW.PrintLast Go.Proofs.YtbcbmmlpgdndpaaDoorW.PrintMore
attribute [local go_sem] max2_int min2_int max_two min_two max_three min_three max_four min_four
set_option linter.unusedVariables false
set_option linter.unusedSimpArgs false
end Go.Proofs.YtbcbmmlpgdndpaaDoor.Q
end
section
set_option linter.unusedSimpArgs false
set_option linter.unusedVariables false
namespace Go.Proofs.YtbcbmmlpgdndpaaDoor.Q
open Go.RowKit Go.Proofs.YtbcbmmlpgdndpaaDoorW.PrintWords Go.Proofs.YtbcbmmlpgdndpaaDoorW.PrintLast Go.Proofs.YtbcbmmlpgdndpaaDoorW.PrintMore Go.Proofs.YtbcbmmlpgdndpaaDoor.P1 Go.Proofs.YtbcbmmlpgdndpaaDoor.R Go.Proofs.YtbcbmmlpgdndpaaDoor.Qu
theorem hasN_eq (n : List UInt8) : hasN n = Ql.has keyF n := by
  funext x
  unfold hasN Ql.has
  rw [Bool.eq_iff_iff]; simp
theorem lackN_eq (n : List UInt8) : lackN n = Ql.lack keyF n := by
  funext x
  unfold lackN
  rw [Ql.lack_not, hasN_eq]
theorem dropN_eq (n : List UInt8) (l : List Fld) : dropN n l = Ql.dropS keyF n l := by unfold dropN Ql.dropS; rw [lackN_eq]
theorem putN_eq (n vv : ByteArray) (l : List Fld) : putN n vv l = Ql.putS keyF n.data.toList ⟨n, vv⟩ l := by
  induction l with
  | nil => rfl
  | cons x l ih =>
    rw [Ql.putS]
    by_cases h : keyF x = n.data.toList
    · have hh : hasN n.data.toList x = true := by unfold hasN; simpa using h
      have hl : lackN n.data.toList x = false := by unfold lackN; rw [hh]; rfl
      rw [if_pos h]
      unfold putN findQ
      rw [List.find?_cons_of_pos hh]
      simp only
      rw [List.takeWhile_cons_of_neg (by rw [hl]; decide), List.dropWhile_cons_of_neg (by rw [hl]; decide)]
      unfold dropN
      rw [List.filter_cons_of_neg (by rw [hl]; decide), lackN_eq]
      rfl
    · have hh : hasN n.data.toList x = false := by unfold hasN; simpa using h
      have hl : lackN n.data.toList x = true := by unfold lackN; rw [hh]; rfl
      rw [if_neg h, ← ih]
      unfold putN findQ
      rw [List.find?_cons_of_neg (by rw [hh]; decide)]
      cases hf : l.find? (hasN n.data.toList) with
      | none => rfl
      | some y =>
        simp only
        rw [List.takeWhile_cons_of_pos hl, List.dropWhile_cons_of_pos hl]
        rfl
theorem key_mk (n vv : ByteArray) : keyF ⟨n, vv⟩ = n.data.toList := rfl
theorem drop_put_len (n vv : ByteArray) (l : List Fld) : (dropN n.data.toList l).length + 1 = (putN n vv l).length := by
  rw [dropN_eq, putN_eq]; exact Ql.dropS_length keyF _ _ (key_mk n vv) l
theorem put_f (l : List Fld) (n vv : ByteArray) (h : l.length ≤ 1073741824) : query_Put.f l n vv = some (putN n vv l) := if_pos h
theorem drop_f (l : List Fld) (n : ByteArray) (h : l.length ≤ 1073741824) : query_Drop.f l n = some (dropN n.data.toList l) := if_pos h
theorem find_f (l : List Fld) (n : ByteArray) (h : l.length ≤ 1073741824) : query_Find.f l n = some (valF (findQ n.data.toList l)) := if_pos h
end Go.Proofs.YtbcbmmlpgdndpaaDoor.Q
end
section
namespace Go.Proofs.YtbcbmmlpgdndpaaDoor.Q
open Go.RowKit Go.Proofs.YtbcbmmlpgdndpaaDoorW.PrintWords Go.Proofs.YtbcbmmlpgdndpaaDoorW.PrintLast Go.Proofs.YtbcbmmlpgdndpaaDoorW.PrintMore
attribute [local go_sem] max2_int min2_int max_two min_two max_three min_three max_four min_four
set_option linter.unusedVariables false
set_option linter.unusedSimpArgs false
end Go.Proofs.YtbcbmmlpgdndpaaDoor.Q
end
section
set_option linter.unusedSimpArgs false
set_option linter.unusedVariables false
namespace Go.Proofs.YtbcbmmlpgdndpaaDoor.Q
open Go.RowKit Go.Proofs.YtbcbmmlpgdndpaaDoorW.PrintWords Go.Proofs.YtbcbmmlpgdndpaaDoorW.PrintLast Go.Proofs.YtbcbmmlpgdndpaaDoorW.PrintMore Go.Proofs.YtbcbmmlpgdndpaaDoor.P1 Go.Proofs.YtbcbmmlpgdndpaaDoor.R Go.Proofs.YtbcbmmlpgdndpaaDoor.Qu Go.Proofs.YtbcbmmlpgdndpaaDoor.St
abbrev ltK : Fld → Fld → Bool := fun a b => lexLt (keyU a) (keyU b)
theorem sortL_length (l : List Fld) : (sortL l).length = l.length := stab_length l
theorem sortL_sd (l : List Fld) : Sd ltK (sortL l) := stab_sorted (lex_tot keyU) (lex_tr keyU) l
theorem mrg_mem_small (x : Fld) : ∀ (l : List Fld) (y : Fld), y ∈ mrg (leq ltK) [x] l → y = x ∨ y ∈ l := by
  intro l y h
  rcases mrg_mem _ _ _ (Nat.le_refl _) h with h | h
  · exact .inl (by simpa using h)
  · exact .inr h
theorem sortL_mem : ∀ (l : List Fld) (y : Fld), y ∈ sortL l → y ∈ l
  | [], y, h => h
  | x :: l, y, h => by
    rcases mrg_mem_small x _ y h with h | h
    · rw [h]; exact List.mem_cons_self
    · exact List.mem_cons_of_mem _ (sortL_mem l y h)
theorem sort_f (l : List Fld) (h : l.length ≤ 1073741824) (hs : ∀ x ∈ l, smallF x) : query_Sort.f l = some (sortL l) := by
  unfold query_Sort.f
  rw [if_pos ⟨h, List.all_eq_true.2 (fun x hx => decide_eq_true (hs x hx))⟩]
theorem toList_key (x : Fld) (n : ByteArray) : (x.f0.toList = n.toList) ↔ hasN n.data.toList x = true := by
  unfold hasN keyF
  rw [Go.ByteArray.toList_eq, Go.ByteArray.toList_eq]; simp
end Go.Proofs.YtbcbmmlpgdndpaaDoor.Q
end
