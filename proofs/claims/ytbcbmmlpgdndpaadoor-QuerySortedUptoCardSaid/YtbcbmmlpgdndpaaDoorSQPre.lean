/- query.Parse, plain: the pieces, and what is read of them. -/
import Derived.Test.YtbcbmmlpgdndpaaDoorSSplit
import Derived.Test.YtbcbmmlpgdndpaaDoorSB6
import Derived.Test.YtbcbmmlpgdndpaaDoorSB5
import Derived.Test.YtbcbmmlpgdndpaaDoorSB7
import Derived.Test.YtbcbmmlpgdndpaaDoorSQText
import Derived.Test.YtbcbmmlpgdndpaaDoorSQFld
import Derived.Test.YtbcbmmlpgdndpaaDoorSQquery1
set_option linter.unusedSimpArgs false
set_option linter.unusedVariables false
namespace Go.Proofs.YtbcbmmlpgdndpaaDoor.Q
open Go.RowKit Go.Proofs.YtbcbmmlpgdndpaaDoorW.PrintWords Go.Proofs.YtbcbmmlpgdndpaaDoorW.PrintLast Go.Proofs.YtbcbmmlpgdndpaaDoorW.PrintMore Go.Proofs.YtbcbmmlpgdndpaaDoor.P1 Go.Proofs.YtbcbmmlpgdndpaaDoor.R Go.Proofs.YtbcbmmlpgdndpaaDoor.Qu
/-- a text as it is read -/
def rdT (l : List UInt8) : List UInt8 := scal (decL (unq l))
theorem decL_len (n : Nat) : ∀ l : List UInt8, l.length ≤ n → (decL l).length ≤ l.length := by
  induction n with
  | zero => intro l h; obtain rfl : l = [] := List.eq_nil_of_length_eq_zero (by omega); simp [decL]
  | succ n ih =>
    intro l h
    cases l with
    | nil => simp [decL]
    | cons c r =>
      cases r with
      | nil => rw [decL_short c [] (by simp)]; simp [decL]
      | cons a r =>
        cases r with
        | nil => rw [decL_short c [a] (by simp), decL_short a [] (by simp)]; simp [decL]
        | cons b r =>
          by_cases hc : c = 37
          · rw [decL, if_pos hc]
            have h1 := ih r (by simp at h; omega)
            have h2 := ih (a :: b :: r) (by simp at h ⊢; omega)
            split
            · simp at h1 ⊢; omega
            · simp at h2 ⊢; omega
          · rw [decL_cons_ne hc]
            have h2 := ih (a :: b :: r) (by simp at h ⊢; omega)
            simp at h2 ⊢; omega
theorem read_ev (l : List UInt8) (h : l.length ≤ 1000000) : Ev (fun k => query_read.f k (B l)) (B (rdT l)) := by
  have h2 := decL_len _ (unq l) (Nat.le_refl _)
  have h3 := unq_length l
  unfold query_read.f
  refine (Ev.const (plus_repl_f l (by omega))).bind ((pct_Decode_ev (unq l) (by omega)).bind ((Ev.const (utf_Scalar_f _ (by omega))).bind ?_))
  exact Ev.now _
theorem read_any (l : List UInt8) (h : l.length ≤ 1000000) (w : World) (hT : UTabs w) : Calls Tryd.prog 32 #[.string (B l)] w fun e w' => e = .returned (.string (B (rdT l))) ∧ Below w.heap.size w w' := by
  obtain ⟨k, hk⟩ := read_ev l h
  exact query_read.calls k _ _ w hT (hk k (Nat.le_refl _))
theorem atB_index (c : UInt8) : ∀ l : List UInt8, (0 ≤ Lib.indexByte l c → atB c l = (l.take (Lib.indexByte l c).toNat, l.drop ((Lib.indexByte l c).toNat + 1))) ∧ (Lib.indexByte l c < 0 → atB c l = (l, []))
  | [] => ⟨fun h => by unfold Lib.indexByte at h; omega, fun _ => rfl⟩
  | b :: l => by
    obtain ⟨h1, h2⟩ := atB_index c l
    have hge := Lib.indexByte_ge l c
    by_cases hb : b = c
    · subst hb
      have e : Lib.indexByte (b :: l) b = 0 := by unfold Lib.indexByte; simp
      rw [e]
      exact ⟨fun _ => by simp [atB], fun h => by omega⟩
    · by_cases hm : Lib.indexByte l c = -1
      · have e : Lib.indexByte (b :: l) c = -1 := by unfold Lib.indexByte; simp [hb, hm]
        rw [e]
        exact ⟨fun h => by omega, fun _ => by simp only [atB]; rw [if_neg hb, h2 (by omega)]⟩
      · have e : Lib.indexByte (b :: l) c = Lib.indexByte l c + 1 := by
          conv => lhs; unfold Lib.indexByte
          simp [hb, hm]
        rw [e]
        refine ⟨fun _ => ?_, fun h => by omega⟩
        simp only [atB]
        rw [if_neg hb, h1 (by omega), show (Lib.indexByte l c + 1).toNat = (Lib.indexByte l c).toNat + 1 by omega]
        simp
theorem cut_atB (c : UInt8) (l : List UInt8) : (Lib.cut l [c]).1 = (atB c l).1 ∧ (Lib.cut l [c]).2.1 = (atB c l).2 := by
  obtain ⟨h1, h2⟩ := atB_index c l
  unfold Lib.cut
  rw [Lib.index_one]
  by_cases h : 0 ≤ Lib.indexByte l c
  · rw [if_pos h, h1 h]; exact ⟨rfl, rfl⟩
  · rw [if_neg h, h2 (by omega)]; exact ⟨rfl, rfl⟩
theorem cut_f (c : UInt8) (l : List UInt8) (h : l.length < 4294967281) : ∃ b, strings_Cut.f (B l) (B [c]) = some (B (atB c l).1, B (atB c l).2, b) := by
  obtain ⟨h1, h2⟩ := cut_atB c l
  refine ⟨(Lib.cut l [c]).2.2, ?_⟩
  unfold strings_Cut.f
  rw [if_pos (by rw [B_size]; exact h), B_data, B_data, h1, h2]
  rfl
theorem atB_len (c : UInt8) : ∀ l : List UInt8, (atB c l).1.length ≤ l.length ∧ (atB c l).2.length ≤ l.length
  | [] => by simp [atB]
  | b :: l => by
    obtain ⟨h1, h2⟩ := atB_len c l
    simp only [atB]
    split
    · simp
    · simp; omega
/-- a pair as it is read -/
def mkP (p : List UInt8) : Fld := ⟨B (rdT (atB 61 p).1), B (rdT (atB 61 p).2)⟩
/-- what is read of the pieces -/
def rdP (ps : List (List UInt8)) : List Fld := (ps.filter (· ≠ [])).map mkP
theorem rdP_skip (ps : List (List UInt8)) : rdP (ps ++ [[]]) = rdP ps := by simp [rdP]
theorem rdP_more (ps : List (List UInt8)) (x : List UInt8) (h : x ≠ []) : rdP (ps ++ [x]) = rdP ps ++ [mkP x] := by simp [rdP, h]
theorem rdP_len (ps : List (List UInt8)) : (rdP ps).length ≤ ps.length := by unfold rdP; rw [List.length_map]; exact List.length_filter_le _ _
theorem parts_count (c : UInt8) : ∀ l : List UInt8, (parts c l).length ≤ l.length + 1
  | [] => by simp [parts]
  | b :: r => by
    have := parts_count c r
    unfold parts
    split
    · simp; omega
    · split
      · simp
      · rename_i h; rw [h] at this; simp at this ⊢; omega
theorem parts_lenQ (c : UInt8) : ∀ (l : List UInt8) (x : List UInt8), x ∈ parts c l → x.length ≤ l.length
  | [], x, h => by simp [parts] at h; simp [h]
  | b :: r, x, h => by
    unfold parts at h
    split at h
    · rcases List.mem_cons.1 h with rfl | h
      · simp
      · have := parts_lenQ c r x h; simp; omega
    · split at h
      · rename_i hp
        exact absurd hp (parts_ne c r)
      · rename_i p ps hp
        rcases List.mem_cons.1 h with rfl | h
        · have := parts_lenQ c r p (by rw [hp]; simp); simp; omega
        · have := parts_lenQ c r x (by rw [hp]; simp [h]); simp; omega
end Go.Proofs.YtbcbmmlpgdndpaaDoor.Q
