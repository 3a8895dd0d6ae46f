/- query.Parse, plain: the pieces, and what is read of them. -/
/- Arguments opened: what a row's reader reads of lists, texts and structs, as the kinds of the walks. -/
import Derived.Test.YtbcbmmlpgdndpaaDoorSSplit
import Derived.Test.YtbcbmmlpgdndpaaDoorSB7
import Derived.Test.YtbcbmmlpgdndpaaDoorSB10
import Derived.Test.YtbcbmmlpgdndpaaDoorSQText
import Derived.Test.YtbcbmmlpgdndpaaDoorSQquery1
import Derived.Test.YtbcbmmlpgdndpaaDoorRows
import Derived.Test.YtbcbmmlpgdndpaaDoorSWWords
import Derived.Deep.Slices
import Derived.Deep.Strs
import Derived.ChangeArms
import Derived.ChangeSame
section
set_option linter.unusedSimpArgs false
set_option linter.unusedVariables false
namespace Go.Proofs.YtbcbmmlpgdndpaaDoor.Q
open Go.RowKit Go.Proofs.YtbcbmmlpgdndpaaDoorW.PrintWords Go.Proofs.YtbcbmmlpgdndpaaDoorW.PrintLast Go.Proofs.YtbcbmmlpgdndpaaDoorW.PrintMore Go.Proofs.YtbcbmmlpgdndpaaDoor.P1 Go.Proofs.YtbcbmmlpgdndpaaDoor.R Go.Proofs.YtbcbmmlpgdndpaaDoor.Qu
/-- a text as it is read -/
def rdT (l : List UInt8) : List UInt8 := scal (decL (unq l))
theorem decL_len (n : Nat) : ∀ l : List UInt8, l.length ≤ n → (decL l).length ≤ l.length := by
  induction n with
  | zero => intro l h; obtain rfl : l = [] := List.eq_nil_of_length_eq_zero (by omega); simp [decL]
  | succ n ih =>
    intro l h
    cases l with
    | nil => simp [decL]
    | cons c r =>
      cases r with
      | nil => rw [decL_short c [] (by simp)]; simp [decL]
      | cons a r =>
        cases r with
        | nil => rw [decL_short c [a] (by simp), decL_short a [] (by simp)]; simp [decL]
        | cons b r =>
          by_cases hc : c = 37
          · rw [decL, if_pos hc]
            have h1 := ih r (by simp at h; omega)
            have h2 := ih (a :: b :: r) (by simp at h ⊢; omega)
            split
            · simp at h1 ⊢; omega
            · simp at h2 ⊢; omega
          · rw [decL_cons_ne hc]
            have h2 := ih (a :: b :: r) (by simp at h ⊢; omega)
            simp at h2 ⊢; omega
theorem read_ev (l : List UInt8) (h : l.length ≤ 1000000) : Ev (fun k => query_read.f k (B l)) (B (rdT l)) := by
  have h2 := decL_len _ (unq l) (Nat.le_refl _)
  have h3 := unq_length l
  unfold query_read.f
  refine (Ev.const (plus_repl_f l (by omega))).bind ((pct_Decode_ev (unq l) (by omega)).bind ((Ev.const (utf_Scalar_f _ (by omega))).bind ?_))
  exact Ev.now _
theorem read_any (l : List UInt8) (h : l.length ≤ 1000000) (w : World) (hT : UTabs w) : Calls Tryd.prog 32 #[.string (B l)] w fun e w' => e = .returned (.string (B (rdT l))) ∧ Below w.heap.size w w' := by
  obtain ⟨k, hk⟩ := read_ev l h
  exact query_read.calls k _ _ w hT (hk k (Nat.le_refl _))
theorem atB_index (c : UInt8) : ∀ l : List UInt8, (0 ≤ Lib.indexByte l c → atB c l = (l.take (Lib.indexByte l c).toNat, l.drop ((Lib.indexByte l c).toNat + 1))) ∧ (Lib.indexByte l c < 0 → atB c l = (l, []))
  | [] => ⟨fun h => by unfold Lib.indexByte at h; omega, fun _ => rfl⟩
  | b :: l => by
    obtain ⟨h1, h2⟩ := atB_index c l
    have hge := Lib.indexByte_ge l c
    by_cases hb : b = c
    · subst hb
      have e : Lib.indexByte (b :: l) b = 0 := by unfold Lib.indexByte; simp
      rw [e]
      exact ⟨fun _ => by simp [atB], fun h => by omega⟩
    · by_cases hm : Lib.indexByte l c = -1
      · have e : Lib.indexByte (b :: l) c = -1 := by unfold Lib.indexByte; simp [hb, hm]
        rw [e]
        exact ⟨fun h => by omega, fun _ => by simp only [atB]; rw [if_neg hb, h2 (by omega)]⟩
      · have e : Lib.indexByte (b :: l) c = Lib.indexByte l c + 1 := by
          conv => lhs; unfold Lib.indexByte
          simp [hb, hm]
        rw [e]
        refine ⟨fun _ => ?_, fun h => by omega⟩
        simp only [atB]
        rw [if_neg hb, h1 (by omega), show (Lib.indexByte l c + 1).toNat = (Lib.indexByte l c).toNat + 1 by omega]
        simp
theorem cut_atB (c : UInt8) (l : List UInt8) : (Lib.cut l [c]).1 = (atB c l).1 ∧ (Lib.cut l [c]).2.1 = (atB c l).2 := by
  obtain ⟨h1, h2⟩ := atB_index c l
  unfold Lib.cut
  rw [Lib.index_one]
  by_cases h : 0 ≤ Lib.indexByte l c
  · rw [if_pos h, h1 h]; exact ⟨rfl, rfl⟩
  · rw [if_neg h, h2 (by omega)]; exact ⟨rfl, rfl⟩
theorem cut_f (c : UInt8) (l : List UInt8) (h : l.length < 4294967281) : ∃ b, strings_Cut.f (B l) (B [c]) = some (B (atB c l).1, B (atB c l).2, b) := by
  obtain ⟨h1, h2⟩ := cut_atB c l
  refine ⟨(Lib.cut l [c]).2.2, ?_⟩
  unfold strings_Cut.f
  rw [if_pos (by rw [B_size]; exact h), B_data, B_data, h1, h2]
  rfl
theorem atB_len (c : UInt8) : ∀ l : List UInt8, (atB c l).1.length ≤ l.length ∧ (atB c l).2.length ≤ l.length
  | [] => by simp [atB]
  | b :: l => by
    obtain ⟨h1, h2⟩ := atB_len c l
    simp only [atB]
    split
    · simp
    · simp; omega
/-- a pair as it is read -/
def mkP (p : List UInt8) : Fld := ⟨B (rdT (atB 61 p).1), B (rdT (atB 61 p).2)⟩
/-- what is read of the pieces -/
def rdP (ps : List (List UInt8)) : List Fld := (ps.filter (· ≠ [])).map mkP
theorem rdP_skip (ps : List (List UInt8)) : rdP (ps ++ [[]]) = rdP ps := by simp [rdP]
theorem rdP_more (ps : List (List UInt8)) (x : List UInt8) (h : x ≠ []) : rdP (ps ++ [x]) = rdP ps ++ [mkP x] := by simp [rdP, h]
theorem rdP_len (ps : List (List UInt8)) : (rdP ps).length ≤ ps.length := by unfold rdP; rw [List.length_map]; exact List.length_filter_le _ _
theorem parts_count (c : UInt8) : ∀ l : List UInt8, (parts c l).length ≤ l.length + 1
  | [] => by simp [parts]
  | b :: r => by
    have := parts_count c r
    unfold parts
    split
    · simp; omega
    · split
      · simp
      · rename_i h; rw [h] at this; simp at this ⊢; omega
theorem parts_lenQ (c : UInt8) : ∀ (l : List UInt8) (x : List UInt8), x ∈ parts c l → x.length ≤ l.length
  | [], x, h => by simp [parts] at h; simp [h]
  | b :: r, x, h => by
    unfold parts at h
    split at h
    · rcases List.mem_cons.1 h with rfl | h
      · simp
      · have := parts_lenQ c r x h; simp; omega
    · split at h
      · rename_i hp
        exact absurd hp (parts_ne c r)
      · rename_i p ps hp
        rcases List.mem_cons.1 h with rfl | h
        · have := parts_lenQ c r p (by rw [hp]; simp); simp; omega
        · have := parts_lenQ c r x (by rw [hp]; simp [h]); simp; omega
end Go.Proofs.YtbcbmmlpgdndpaaDoor.Q
end
section
set_option linter.unusedSimpArgs false
set_option linter.unusedVariables false
namespace Go.Proofs.YtbcbmmlpgdndpaaDoor.Q
open Go.RowKit Go.Proofs.YtbcbmmlpgdndpaaDoorW.PrintWords Go.Deep Go.ChangeShapes Go.WideShapes
theorem bulk_append {H : Type} : ∀ a b : List (DataW H), Rows.uptoBulkAll (a ++ b) = Rows.uptoBulkAll a + Rows.uptoBulkAll b
  | [], b => by simp [Rows.uptoBulkAll]
  | x :: a, b => by simp only [List.cons_append, Rows.uptoBulkAll, bulk_append a b]; omega
section
variable {H : Type} {enc : TypeId × Value → H} {P : Program} {w : World} {base : Nat} {spare : Nat → Bool} {held : Bool}
/-- whatever is read at type t is of the kind d, no greater than its bulk -/
def Opens {H : Type} (enc : TypeId × Value → H) (P : Program) (w : World) (base : Nat) (spare : Nat → Bool) (held : Bool) {α : Type} (d : Kd α) (t : TypeId) (m : α → Nat) : Prop :=
  ∀ (fuel : Nat) (cs : List Value) (x : DataW H × List MemPlace), DataW.trod enc P w base spare held fuel t cs = some x → ∃ v, d.K w v cs ∧ m v ≤ Rows.uptoBulk x.1
theorem opens_string {t : TypeId} (ht : P.underlying t = some .string) : Opens enc P w base spare held Kd.string t (fun s => s.size + 1) := by
  intro fuel cs x h
  obtain ⟨s, rfl, rfl, _⟩ := DataW.trod_string ht h
  exact ⟨s, rfl, by simp only [Rows.uptoBulk, Array.length_toList]; exact Nat.le_refl _⟩
theorem opens_slice {α : Type} {d : Kd α} {e t : TypeId} {m : α → Nat} (ht : P.underlying t = some (.slice e)) (hc : P.cellsOf e = d.sz) (hd : Opens enc P w base spare held d e m) : Opens enc P w base spare held (Kd.slice e d) t (fun l => (l.map m).sum + 1) := by
  intro fuel cs x h
  rcases open_slice ht h with ⟨rfl, rfl⟩ | ⟨a, len, cap, mm, n, D, Pl, rfl, hb, hl, hm, hmm, rfl, hx⟩
  · exact ⟨[], ⟨none, 0, rfl, Nat.le_refl _, Kd.C_nil d w⟩, by simp [Rows.uptoBulk]⟩
  · have key : ∀ k, k ≤ len → ∃ l : List α, l.length = k ∧ (∀ (j : Nat) p, l[j]? = some p → ∃ cs', w.cells? base (a.add (j * P.cellsOf e)) (P.cellsOf e) = some cs' ∧ d.K w p cs') ∧ (l.map m).sum ≤ Rows.uptoBulkAll ((List.range k).map D) := by
      intro k
      induction k with
      | zero => intro _; exact ⟨[], rfl, fun j p hj => by simp at hj, by simp⟩
      | succ k ih =>
        intro hk
        obtain ⟨l, h1, h2, h3⟩ := ih (by omega)
        have hkm : k < mm := by rw [hmm]; split <;> omega
        obtain ⟨cs', hcs, htr⟩ := hx k hkm
        obtain ⟨v, hv, hmv⟩ := hd _ _ _ htr
        refine ⟨l ++ [v], by simp [h1], fun j p hj => ?_, ?_⟩
        · rw [List.getElem?_append] at hj
          split at hj
          · exact h2 j p hj
          · rename_i hjl
            have hj0 : j = k := by
              have := (List.getElem?_eq_some_iff.1 hj).1
              simp at this
              omega
            subst hj0
            rw [h1, Nat.sub_self] at hj
            obtain rfl : v = p := by simpa using hj
            exact ⟨cs', hcs, hv⟩
        · simp only [List.range_succ, List.map_append, bulk_append, List.sum_append, List.map_cons, List.map_nil, List.sum_cons, List.sum_nil, Rows.uptoBulkAll]
          have hmv' : m v ≤ Rows.uptoBulk (D k) := hmv
          omega
    obtain ⟨l, h1, h2, h3⟩ := key len (Nat.le_refl _)
    refine ⟨l, ⟨some a, cap, by rw [h1], by rw [h1]; exact hl, rfl, by have := hm; unfold maxLen at this; omega, fun _ => ⟨a, rfl, fun j p hj => ?_⟩⟩, ?_⟩
    · obtain ⟨cs', hcs, hK⟩ := h2 j p hj
      obtain ⟨_, hlen, hcell⟩ := World.cells?_some hcs
      refine ⟨cs', d.K_len hK, hK, fun i u hi => ?_⟩
      have hil := (List.getElem?_eq_some_iff.1 hi).1
      have := hcell i (by omega)
      rw [Go.Deep.add_add, hc] at this
      rw [this, hi]
    · simp only [Rows.uptoBulk]
      omega
theorem opens_pair {α β : Type} {d0 : Kd α} {d1 : Kd β} {t : TypeId} {f0 f1 : Field} {m0 : α → Nat} {m1 : β → Nat} (ht : P.underlying t = some (.struct #[f0, f1])) (o0 : f0.offset = 0) (o1 : f1.offset = P.cellsOf f0.type) (hct : P.cellsOf t = P.cellsOf f0.type + P.cellsOf f1.type)
    (h0 : Opens enc P w base spare held d0 f0.type m0) (h1 : Opens enc P w base spare held d1 f1.type m1) : Opens enc P w base spare held (Kd.pair d0 d1) t (fun p => m0 p.1 + m1 p.2 + 1) := by
  intro fuel cs x h
  obtain ⟨y0, y1, n, rfl, hl, k0, k1⟩ := trod_struct2 ht h
  obtain ⟨v0, q0, b0⟩ := h0 _ _ _ k0
  obtain ⟨v1, q1, b1⟩ := h1 _ _ _ k1
  refine ⟨(v0, v1), ⟨_, _, ?_, q0, q1⟩, by simp only [Rows.uptoBulk, Rows.uptoBulkAll]; omega⟩
  rw [o0, o1, List.drop_zero]
  have : (cs.drop (P.cellsOf f0.type)).take (P.cellsOf f1.type) = cs.drop (P.cellsOf f0.type) := List.take_of_length_le (by rw [List.length_drop]; omega)
  rw [this, List.take_append_drop]
theorem opens_iso {α β : Type} {d : Kd α} {t : TypeId} {m : α → Nat} (f : β → α) (g : α → β) (hg : ∀ x, f (g x) = x) (h : Opens enc P w base spare held d t m) : Opens enc P w base spare held (Kd.iso d f) t (fun y => m (f y)) := by
  intro fuel cs x hx
  obtain ⟨v, hv, hb⟩ := h fuel cs x hx
  exact ⟨g v, by show d.K w (f (g v)) cs; rw [hg]; exact hv, by show m (f (g v)) ≤ _; rw [hg]; exact hb⟩
end
theorem sum_mem {α : Type} (m : α → Nat) : ∀ (l : List α), ∀ x ∈ l, m x ≤ (l.map m).sum
  | [], x, h => by cases h
  | y :: l, x, h => by
    simp only [List.map_cons, List.sum_cons]
    rcases List.mem_cons.1 h with rfl | h
    · omega
    · have := sum_mem m l x h; omega
theorem sum_len {α : Type} (m : α → Nat) (h1 : ∀ x, 1 ≤ m x) : ∀ (l : List α), l.length ≤ (l.map m).sum
  | [] => by simp
  | y :: l => by
    have := sum_len m h1 l
    have := h1 y
    simp only [List.map_cons, List.sum_cons, List.length_cons]
    omega
end Go.Proofs.YtbcbmmlpgdndpaaDoor.Q
end
