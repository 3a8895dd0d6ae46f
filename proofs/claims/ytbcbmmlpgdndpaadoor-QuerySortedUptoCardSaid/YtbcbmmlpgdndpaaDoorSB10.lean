/- Functions of the given program as plain Lean functions, each with the proof that the machine answers as it does; laid by a program of mine over the kit print. -/
/- Functions of the given program as plain Lean functions, each with the proof that the machine answers as it does; laid by a program of mine over the kit print. -/
/- The laws QueryTexts, QueryBack, QueryJoins, plain. -/
/- Arguments opened: what a row's reader reads of lists, texts and structs, as the kinds of the walks. -/
/- Forms opened. -/
/- Functions of the given program as plain Lean functions, each with the proof that the machine answers as it does; laid by a program of mine over the kit print. -/
/- The law QueryPut, plain. -/
import Derived.Test.YtbcbmmlpgdndpaaDoorSB4
import Derived.Test.YtbcbmmlpgdndpaaDoorSQParse
import Derived.Test.YtbcbmmlpgdndpaaDoorSQPrint
import Derived.Test.YtbcbmmlpgdndpaaDoorSQbastionlaw112
import Derived.Test.YtbcbmmlpgdndpaaDoorSQbastionref110
import Derived.Test.YtbcbmmlpgdndpaaDoorSB7
import Derived.Test.YtbcbmmlpgdndpaaDoorSB8
import Derived.Test.YtbcbmmlpgdndpaaDoorRows
import Derived.Test.YtbcbmmlpgdndpaaDoorSWWords
import Derived.Deep.Slices
import Derived.Deep.Strs
import Derived.ChangeArms
import Derived.ChangeSame
import Derived.Test.YtbcbmmlpgdndpaaDoorSB9
section
namespace Go.Proofs.YtbcbmmlpgdndpaaDoor.Q
open Go.RowKit Go.Proofs.YtbcbmmlpgdndpaaDoorW.PrintWords Go.Proofs.YtbcbmmlpgdndpaaDoorW.PrintLast Go.Proofs.YtbcbmmlpgdndpaaDoorW.PrintMore
attribute [local go_sem] max2_int min2_int max_two min_two max_three min_three max_four min_four
set_option linter.unusedVariables false
set_option linter.unusedSimpArgs false
end Go.Proofs.YtbcbmmlpgdndpaaDoor.Q
end
section
namespace Go.Proofs.YtbcbmmlpgdndpaaDoor.Q
open Go.RowKit Go.Proofs.YtbcbmmlpgdndpaaDoorW.PrintWords Go.Proofs.YtbcbmmlpgdndpaaDoorW.PrintLast Go.Proofs.YtbcbmmlpgdndpaaDoorW.PrintMore
attribute [local go_sem] max2_int min2_int max_two min_two max_three min_three max_four min_four
set_option linter.unusedVariables false
set_option linter.unusedSimpArgs false
end Go.Proofs.YtbcbmmlpgdndpaaDoor.Q
end
section
set_option linter.unusedSimpArgs false
set_option linter.unusedVariables false
namespace Go.Proofs.YtbcbmmlpgdndpaaDoor.Q
open Go.RowKit Go.Proofs.YtbcbmmlpgdndpaaDoorW.PrintWords Go.Proofs.YtbcbmmlpgdndpaaDoorW.PrintLast Go.Proofs.YtbcbmmlpgdndpaaDoorW.PrintMore Go.Proofs.YtbcbmmlpgdndpaaDoor.P1 Go.Proofs.YtbcbmmlpgdndpaaDoor.R Go.Proofs.YtbcbmmlpgdndpaaDoor.Qu
theorem qlives_now : bastionlaw11_lives.f 100 = some true := by decide +kernel
theorem qlives_ev : Ev (fun k => bastionlaw11_lives.f k) true := Ev.of (fun k => bastionlaw11_lives.mono k) qlives_now
end Go.Proofs.YtbcbmmlpgdndpaaDoor.Q
end
section
set_option linter.unusedSimpArgs false
set_option linter.unusedVariables false
namespace Go.Proofs.YtbcbmmlpgdndpaaDoor.Q
open Go.RowKit Go.Proofs.YtbcbmmlpgdndpaaDoorW.PrintWords Go.Deep Go.ChangeShapes Go.WideShapes
theorem bulk_append {H : Type} : ∀ a b : List (DataW H), Rows.uptoBulkAll (a ++ b) = Rows.uptoBulkAll a + Rows.uptoBulkAll b
  | [], b => by simp [Rows.uptoBulkAll]
  | x :: a, b => by simp only [List.cons_append, Rows.uptoBulkAll, bulk_append a b]; omega
section
variable {H : Type} {enc : TypeId × Value → H} {P : Program} {w : World} {base : Nat} {spare : Nat → Bool} {held : Bool}
/-- whatever is read at type t is of the kind d, no greater than its bulk -/
def Opens {H : Type} (enc : TypeId × Value → H) (P : Program) (w : World) (base : Nat) (spare : Nat → Bool) (held : Bool) {α : Type} (d : Kd α) (t : TypeId) (m : α → Nat) : Prop :=
  ∀ (fuel : Nat) (cs : List Value) (x : DataW H × List MemPlace), DataW.trod enc P w base spare held fuel t cs = some x → ∃ v, d.K w v cs ∧ m v ≤ Rows.uptoBulk x.1
theorem opens_string {t : TypeId} (ht : P.underlying t = some .string) : Opens enc P w base spare held Kd.string t (fun s => s.size + 1) := by
  intro fuel cs x h
  obtain ⟨s, rfl, rfl, _⟩ := DataW.trod_string ht h
  exact ⟨s, rfl, by simp only [Rows.uptoBulk, Array.length_toList]; exact Nat.le_refl _⟩
theorem opens_slice {α : Type} {d : Kd α} {e t : TypeId} {m : α → Nat} (ht : P.underlying t = some (.slice e)) (hc : P.cellsOf e = d.sz) (hd : Opens enc P w base spare held d e m) : Opens enc P w base spare held (Kd.slice e d) t (fun l => (l.map m).sum + 1) := by
  intro fuel cs x h
  rcases open_slice ht h with ⟨rfl, rfl⟩ | ⟨a, len, cap, mm, n, D, Pl, rfl, hb, hl, hm, hmm, rfl, hx⟩
  · exact ⟨[], ⟨none, 0, rfl, Nat.le_refl _, Kd.C_nil d w⟩, by simp [Rows.uptoBulk]⟩
  · have key : ∀ k, k ≤ len → ∃ l : List α, l.length = k ∧ (∀ (j : Nat) p, l[j]? = some p → ∃ cs', w.cells? base (a.add (j * P.cellsOf e)) (P.cellsOf e) = some cs' ∧ d.K w p cs') ∧ (l.map m).sum ≤ Rows.uptoBulkAll ((List.range k).map D) := by
      intro k
      induction k with
      | zero => intro _; exact ⟨[], rfl, fun j p hj => by simp at hj, by simp⟩
      | succ k ih =>
        intro hk
        obtain ⟨l, h1, h2, h3⟩ := ih (by omega)
        have hkm : k < mm := by rw [hmm]; split <;> omega
        obtain ⟨cs', hcs, htr⟩ := hx k hkm
        obtain ⟨v, hv, hmv⟩ := hd _ _ _ htr
        refine ⟨l ++ [v], by simp [h1], fun j p hj => ?_, ?_⟩
        · rw [List.getElem?_append] at hj
          split at hj
          · exact h2 j p hj
          · rename_i hjl
            have hj0 : j = k := by
              have := (List.getElem?_eq_some_iff.1 hj).1
              simp at this
              omega
            subst hj0
            rw [h1, Nat.sub_self] at hj
            obtain rfl : v = p := by simpa using hj
            exact ⟨cs', hcs, hv⟩
        · simp only [List.range_succ, List.map_append, bulk_append, List.sum_append, List.map_cons, List.map_nil, List.sum_cons, List.sum_nil, Rows.uptoBulkAll]
          have hmv' : m v ≤ Rows.uptoBulk (D k) := hmv
          omega
    obtain ⟨l, h1, h2, h3⟩ := key len (Nat.le_refl _)
    refine ⟨l, ⟨some a, cap, by rw [h1], by rw [h1]; exact hl, rfl, by have := hm; unfold maxLen at this; omega, fun _ => ⟨a, rfl, fun j p hj => ?_⟩⟩, ?_⟩
    · obtain ⟨cs', hcs, hK⟩ := h2 j p hj
      obtain ⟨_, hlen, hcell⟩ := World.cells?_some hcs
      refine ⟨cs', d.K_len hK, hK, fun i u hi => ?_⟩
      have hil := (List.getElem?_eq_some_iff.1 hi).1
      have := hcell i (by omega)
      rw [Go.Deep.add_add, hc] at this
      rw [this, hi]
    · simp only [Rows.uptoBulk]
      omega
theorem opens_pair {α β : Type} {d0 : Kd α} {d1 : Kd β} {t : TypeId} {f0 f1 : Field} {m0 : α → Nat} {m1 : β → Nat} (ht : P.underlying t = some (.struct #[f0, f1])) (o0 : f0.offset = 0) (o1 : f1.offset = P.cellsOf f0.type) (hct : P.cellsOf t = P.cellsOf f0.type + P.cellsOf f1.type)
    (h0 : Opens enc P w base spare held d0 f0.type m0) (h1 : Opens enc P w base spare held d1 f1.type m1) : Opens enc P w base spare held (Kd.pair d0 d1) t (fun p => m0 p.1 + m1 p.2 + 1) := by
  intro fuel cs x h
  obtain ⟨y0, y1, n, rfl, hl, k0, k1⟩ := trod_struct2 ht h
  obtain ⟨v0, q0, b0⟩ := h0 _ _ _ k0
  obtain ⟨v1, q1, b1⟩ := h1 _ _ _ k1
  refine ⟨(v0, v1), ⟨_, _, ?_, q0, q1⟩, by simp only [Rows.uptoBulk, Rows.uptoBulkAll]; omega⟩
  rw [o0, o1, List.drop_zero]
  have : (cs.drop (P.cellsOf f0.type)).take (P.cellsOf f1.type) = cs.drop (P.cellsOf f0.type) := List.take_of_length_le (by rw [List.length_drop]; omega)
  rw [this, List.take_append_drop]
theorem opens_iso {α β : Type} {d : Kd α} {t : TypeId} {m : α → Nat} (f : β → α) (g : α → β) (hg : ∀ x, f (g x) = x) (h : Opens enc P w base spare held d t m) : Opens enc P w base spare held (Kd.iso d f) t (fun y => m (f y)) := by
  intro fuel cs x hx
  obtain ⟨v, hv, hb⟩ := h fuel cs x hx
  exact ⟨g v, by show d.K w (f (g v)) cs; rw [hg]; exact hv, by show m (f (g v)) ≤ _; rw [hg]; exact hb⟩
end
theorem sum_mem {α : Type} (m : α → Nat) : ∀ (l : List α), ∀ x ∈ l, m x ≤ (l.map m).sum
  | [], x, h => by cases h
  | y :: l, x, h => by
    simp only [List.map_cons, List.sum_cons]
    rcases List.mem_cons.1 h with rfl | h
    · omega
    · have := sum_mem m l x h; omega
theorem sum_len {α : Type} (m : α → Nat) (h1 : ∀ x, 1 ≤ m x) : ∀ (l : List α), l.length ≤ (l.map m).sum
  | [] => by simp
  | y :: l => by
    have := sum_len m h1 l
    have := h1 y
    simp only [List.map_cons, List.sum_cons, List.length_cons]
    omega
end Go.Proofs.YtbcbmmlpgdndpaaDoor.Q
end
section
set_option linter.unusedSimpArgs false
set_option linter.unusedVariables false
namespace Go.Proofs.YtbcbmmlpgdndpaaDoor.Q
open Go.RowKit Go.Proofs.YtbcbmmlpgdndpaaDoorW.PrintWords Go.Deep Go.ChangeShapes Go.WideShapes
def mStr (s : ByteArray) : Nat := s.size + 1
def mFld (d : S32) : Nat := mStr d.f0 + mStr d.f1 + 1
def mFlds (l : List S32) : Nat := (l.map mFld).sum + 1
theorem mFld_one (d : S32) : 1 ≤ mFld d := by unfold mFld; omega
theorem mFlds_len (l : List S32) : l.length ≤ mFlds l := by have := sum_len mFld mFld_one l; unfold mFlds; omega
theorem mFlds_mem (l : List S32) (x : S32) (h : x ∈ l) : x.f0.size + x.f1.size ≤ mFlds l := by
  have := sum_mem mFld l x h
  unfold mFld mStr at this
  unfold mFlds; unfold mFld mStr; omega
section
variable {H : Type} {enc : TypeId × Value → H} {w : World} {base : Nat} {spare : Nat → Bool} {held : Bool}
theorem opens_fld : Opens enc Tryd.prog w base spare held k32 32 mFld :=
  opens_iso (fun x : S32 => (x.f0, x.f1)) (fun p => ⟨p.1, p.2⟩) (fun _ => rfl) (opens_pair Tryd.underlying32 rfl (by kernel_rfl) (by kernel_rfl) (opens_string Tryd.underlying9) (opens_string Tryd.underlying9))
theorem opens_flds : Opens enc Tryd.prog w base spare held (Kd.slice 32 k32) 22 mFlds := opens_slice Tryd.underlying22 (by kernel_rfl) opens_fld
end
end Go.Proofs.YtbcbmmlpgdndpaaDoor.Q
end
section
namespace Go.Proofs.YtbcbmmlpgdndpaaDoor.Q
open Go.RowKit Go.Proofs.YtbcbmmlpgdndpaaDoorW.PrintWords Go.Proofs.YtbcbmmlpgdndpaaDoorW.PrintLast Go.Proofs.YtbcbmmlpgdndpaaDoorW.PrintMore
attribute [local go_sem] max2_int min2_int max_two min_two max_three min_three max_four min_four
set_option linter.unusedVariables false
set_option linter.unusedSimpArgs false
end Go.Proofs.YtbcbmmlpgdndpaaDoor.Q
end
section
set_option linter.unusedSimpArgs false
set_option linter.unusedVariables false
namespace Go.Proofs.YtbcbmmlpgdndpaaDoor.Q
open Go.RowKit Go.Proofs.YtbcbmmlpgdndpaaDoorW.PrintWords Go.Proofs.YtbcbmmlpgdndpaaDoorW.PrintLast Go.Proofs.YtbcbmmlpgdndpaaDoorW.PrintMore Go.Proofs.YtbcbmmlpgdndpaaDoor.P1 Go.Proofs.YtbcbmmlpgdndpaaDoor.R Go.Proofs.YtbcbmmlpgdndpaaDoor.Qu
end Go.Proofs.YtbcbmmlpgdndpaaDoor.Q
end
