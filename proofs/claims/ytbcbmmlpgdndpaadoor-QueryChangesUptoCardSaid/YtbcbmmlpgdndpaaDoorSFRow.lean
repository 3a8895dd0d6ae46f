/- Rows of fields in a block of their own; slices.Clone of fields. -/
import Derived.Test.YtbcbmmlpgdndpaaDoorSB7
import Derived.Test.YtbcbmmlpgdndpaaDoorSB10
import Derived.Test.YtbcbmmlpgdndpaaDoorSEnc
set_option linter.unusedSimpArgs false
set_option linter.unusedVariables false
namespace Go.Proofs.YtbcbmmlpgdndpaaDoor.Q
open Go.RowKit Go.Proofs.YtbcbmmlpgdndpaaDoorW.PrintWords Go.Proofs.YtbcbmmlpgdndpaaDoorW.PrintLast Go.Proofs.YtbcbmmlpgdndpaaDoorW.PrintMore Go.Proofs.YtbcbmmlpgdndpaaDoor.R
def eF (x : Fld) : List Value := [.string x.f0, .string x.f1]
/-- block g holds the fields m, in the room of cap -/
def RowF (g cap : Nat) (W : World) (m : List Fld) : Prop :=
  ∃ cur, W.heap[g]? = some (.cells cur 32 (0, 0)) ∧ cur.size = cap * 2 ∧ m.length ≤ cap ∧ cap ≤ maxLen ∧ ∀ (j : Nat) x, m[j]? = some x → cur[j * 2]? = some (.string x.f0) ∧ cur[j * 2 + 1]? = some (.string x.f1)
theorem RowF.lt {g cap : Nat} {W : World} {m : List Fld} (h : RowF g cap W m) : g < W.heap.size := by obtain ⟨cur, h, _⟩ := h; exact (Array.getElem?_eq_some_iff.1 h).1
theorem RowF.move {g cap : Nat} {W W' : World} {m : List Fld} (h : RowF g cap W m) (hg : W'.heap[g]? = W.heap[g]?) : RowF g cap W' m := by
  obtain ⟨cur, h1, h2⟩ := h
  exact ⟨cur, hg.trans h1, h2⟩
theorem RowF.below {g cap : Nat} {W W' : World} {m : List Fld} (h : RowF g cap W m) (hb : Below W.heap.size W W') : RowF g cap W' m := h.move (hb.block g h.lt)
theorem RowF.cell {g cap : Nat} {W : World} {m : List Fld} (h : RowF g cap W m) {j : Nat} {x : Fld} (hj : m[j]? = some x) : W.cell? ⟨g, j * 2, none⟩ = some (.string x.f0) ∧ W.cell? ⟨g, j * 2 + 1, none⟩ = some (.string x.f1) := by
  obtain ⟨cur, h1, _, _, _, h5⟩ := h
  rw [Lib.cell_of_heap h1, Lib.cell_of_heap h1]
  exact h5 j x hj
theorem RowF.frozen {g cap : Nat} {W : World} {m : List Fld} (h : RowF g cap W m) (j : Nat) : W.frozen? ⟨g, j, none⟩ = false := by
  obtain ⟨cur, h1, _⟩ := h
  exact Lib.frozen_of_heap h1 j
theorem RowF.set {g cap : Nat} {W : World} {m : List Fld} (h : RowF g cap W m) (i : Nat) (x : Fld) (hi : i < m.length) : RowF g cap ((W.setCell ⟨g, i * 2, none⟩ (.string x.f0)).setCell ⟨g, i * 2 + 1, none⟩ (.string x.f1)) (m.set i x) := by
  obtain ⟨cur, h1, h2, h3, h4, h5⟩ := h
  refine ⟨(cur.setIfInBounds (i * 2) (.string x.f0)).setIfInBounds (i * 2 + 1) (.string x.f1), ?_, by simpa using h2, by simpa using h3, h4, fun j y hj => ?_⟩
  · exact setCell_blk (j := i * 2 + 1) _ (setCell_blk (j := i * 2) _ h1)
  · have hjl : j < m.length := by have := (List.getElem?_eq_some_iff.1 hj).1; simpa using this
    have hc0 : i * 2 < cur.size := by omega
    have hc1 : i * 2 + 1 < cur.size := by omega
    by_cases e : j = i
    · subst e
      rw [List.getElem?_set_self hjl] at hj
      cases hj
      refine ⟨?_, ?_⟩
      · rw [Array.getElem?_setIfInBounds_ne (by omega), Array.getElem?_setIfInBounds_self_of_lt hc0]
      · rw [Array.getElem?_setIfInBounds_self_of_lt (by rw [Array.size_setIfInBounds]; exact hc1)]
    · rw [List.getElem?_set_ne (by omega)] at hj
      obtain ⟨k0, k1⟩ := h5 j y hj
      refine ⟨?_, ?_⟩
      · rw [Array.getElem?_setIfInBounds_ne (by omega), Array.getElem?_setIfInBounds_ne (by omega)]; exact k0
      · rw [Array.getElem?_setIfInBounds_ne (by omega), Array.getElem?_setIfInBounds_ne (by omega)]; exact k1
theorem RowF.take {g cap : Nat} {W : World} {m : List Fld} (h : RowF g cap W m) (k : Nat) : RowF g cap W (m.take k) := by
  obtain ⟨cur, h1, h2, h3, h4, h5⟩ := h
  refine ⟨cur, h1, h2, by rw [List.length_take]; omega, h4, fun j y hj => ?_⟩
  rw [List.getElem?_take] at hj
  split at hj
  · exact h5 j y hj
  · cases hj
theorem flat_get (l : List Fld) (j : Nat) (x : Fld) (h : l[j]? = some x) : (l.flatMap eF)[j * 2]? = some (.string x.f0) ∧ (l.flatMap eF)[j * 2 + 1]? = some (.string x.f1) := by
  induction l generalizing j with
  | nil => simp at h
  | cons y l ih =>
    rw [List.flatMap_cons]
    cases j with
    | zero => simp at h; subst h; simp [eF]
    | succ j =>
      simp only [List.getElem?_cons_succ] at h
      obtain ⟨h0, h1⟩ := ih j h
      have hl : (eF y).length = 2 := rfl
      refine ⟨?_, ?_⟩
      · rw [List.getElem?_append_right (by omega), hl, show (j + 1) * 2 - 2 = j * 2 by omega]; exact h0
      · rw [List.getElem?_append_right (by omega), hl, show (j + 1) * 2 + 1 - 2 = j * 2 + 1 by omega]; exact h1
theorem flat_len (l : List Fld) : (l.flatMap eF).length = l.length * 2 := by
  induction l with
  | nil => rfl
  | cons y l ih => rw [List.flatMap_cons, List.length_append, ih]; simp [eF]; omega
theorem flat_ext {a : List Value} {l : List Fld} (hl : a.length = l.length * 2) (h : ∀ (j : Nat) x, l[j]? = some x → a[j * 2]? = some (.string x.f0) ∧ a[j * 2 + 1]? = some (.string x.f1)) : a = l.flatMap eF := by
  apply List.ext_getElem?
  intro i
  by_cases hi : i < l.length * 2
  · obtain ⟨j, r, hr, hj⟩ : ∃ j r, r < 2 ∧ i = j * 2 + r := ⟨i / 2, i % 2, by omega, by omega⟩
    have hjl : j < l.length := by omega
    have hx := List.getElem?_eq_getElem hjl
    obtain ⟨a0, a1⟩ := h j _ hx
    obtain ⟨b0, b1⟩ := flat_get l j _ hx
    rcases r with _ | _ | r
    · rw [hj]; exact a0.trans b0.symm
    · rw [hj]; exact a1.trans b1.symm
    · omega
  · rw [List.getElem?_eq_none (by omega), List.getElem?_eq_none (by rw [flat_len]; omega)]
/-- a row's kind out of a block, and back -/
theorem RowF.to_R {g cap : Nat} {W : World} {m : List Fld} {base : Nat} (h : RowF g cap W m) (hg : base ≤ g) : Kd.R kF 32 W base (fun _ => True) (.slice (some ⟨g, 0, none⟩) m.length cap) m := by
  obtain ⟨cur, h1, h2, h3, h4, h5⟩ := h
  have hflat : cur.toList.take (m.length * 2) = m.flatMap eF := by
    have hcl : cur.toList.length = cur.size := Array.length_toList
    refine flat_ext (by rw [List.length_take]; omega) (fun j x hj => ?_)
    have hjl := (List.getElem?_eq_some_iff.1 hj).1
    rw [List.getElem?_take, List.getElem?_take, if_pos (by omega), if_pos (by omega), Array.getElem?_toList, Array.getElem?_toList]
    exact h5 j x hj
  refine ⟨fun _ _ => trivial, m.flatMap eF, ⟨flat_len m, .inr ⟨g, cap, cur, rfl, hg, h1, h3, h4, h2, hflat⟩⟩, ⟨flat_len m, fun j x hj => ?_⟩⟩
  obtain ⟨k0, k1⟩ := flat_get m j x hj
  have : ((m.flatMap eF).drop (j * 2)).take 2 = [.string x.f0, .string x.f1] := by
    have hjl := (List.getElem?_eq_some_iff.1 hj).1
    have hfl := flat_len m
    rw [List.drop_eq_getElem_cons (show j * 2 < (m.flatMap eF).length by omega), List.drop_eq_getElem_cons (show j * 2 + 1 < (m.flatMap eF).length by omega)]
    rw [List.getElem?_eq_getElem (by omega)] at k0 k1
    simp only [Option.some.injEq] at k0 k1
    rw [k0, k1]; rfl
  show kF.M _ _ _ x (((m.flatMap eF).drop (j * 2)).take 2)
  rw [this]
  exact k32_mkM _ _ _ x
theorem R_rowF {W : World} {base : Nat} {ok : Nat → Prop} {v : Value} {m : List Fld} (h : Kd.R kF 32 W base ok v m) : (m = [] ∧ v = .slice none 0 0) ∨ ∃ g cap, v = .slice (some ⟨g, 0, none⟩) m.length cap ∧ base ≤ g ∧ RowF g cap W m := by
  obtain ⟨_, inner, ⟨hl, ho⟩, hr⟩ := h
  rcases ho with ⟨rfl, h0⟩ | ⟨g, cap, cur, rfl, h1, h2, h3, h4, h5, h6⟩
  · exact .inl ⟨List.length_eq_zero_iff.1 h0, rfl⟩
  · refine .inr ⟨g, cap, rfl, h1, cur, h2, h5, h3, h4, fun j x hj => ?_⟩
    have h7 := hr.2 j x hj
    have h8 : (inner.drop (j * 2)).take 2 = [.string x.f0, .string x.f1] := k32_openM h7
    have hjl := (List.getElem?_eq_some_iff.1 hj).1
    have e0 := congrArg (fun l => l[0]?) h8
    have e1 := congrArg (fun l => l[1]?) h8
    simp only [List.getElem?_take, List.getElem?_drop] at e0 e1
    simp at e0 e1
    rw [← h6] at e0 e1
    rw [List.getElem?_take, if_pos (by show j * 2 < m.length * 2; omega), Array.getElem?_toList] at e0
    rw [List.getElem?_take, if_pos (by show j * 2 + 1 < m.length * 2; omega), Array.getElem?_toList] at e1
    exact ⟨e0, e1⟩
theorem rowF_new (w : World) : Kd.R kF 32 (w.alloc (.cells #[] 32)) w.heap.size (fun _ => True) (.slice (some ⟨w.heap.size, 0, none⟩) 0 0) [] :=
  RowF.to_R (m := []) ⟨#[], heap_new _ _, rfl, Nat.le_refl _, by unfold maxLen; omega, fun j x hj => by simp at hj⟩ (Nat.le_refl _)
set_option maxHeartbeats 4000000 in
set_option maxRecDepth 100000 in
theorem cloneF_calls (A : Option Addr) (c : Nat) (l : List Fld) (w : World) (hC : Kd.C kF w A l.length l) (hc : l.length ≤ c) (hl : l.length ≤ 4398046511103) :
    Calls Tryd.prog 37 #[.slice A l.length c] w fun e w' => ∃ v, e = .returned v ∧ Kd.R kF 32 w' w.heap.size (fun _ => True) v l ∧ Below w.heap.size w w' := by
  cases A with
  | none =>
    have h0 : l = [] := by
      cases l with
      | nil => rfl
      | cons x t =>
        obtain ⟨ad, he, _⟩ := hC.2.2 (by simp)
        cases he
    subst h0
    have heq := fun W => Lib.run_eql_slice_nil (P := Tryd.prog) W 22 32 none 0 c 0 0 Tryd.underlying22
    go_enter Tryd.func37, Tryd.ntmps37
    go_wp2
    go_ret
    exact ⟨_, rfl, Kd.R_nil _ _ _ _ _, Below.refl _ _⟩
  | some ad =>
    have HC := Lib.hid hC
    have HN := Lib.hid (rowF_new w)
    have HB := Lib.hid ((Below.refl w.heap.size w).alloc (Nat.le_refl _) (.cells #[] 32))
    have HL := Lib.hid hl
    clear hC hl
    have heq := fun W => Lib.run_eql_slice_nil (P := Tryd.prog) W 22 32 (some ad) l.length c 0 0 Tryd.underlying22
    go_enter Tryd.func37, Tryd.ntmps37
    go_wp2_with (first | ((with_reducible refine gate_dst (N := 7) rfl ?_); refine Kd.R_append_rows kF (w0 := w) w.heap.size rfl (.tmp 5) (.tmp 6) 22 32 (.agg #[(.string ⟨#[]⟩), (.string ⟨#[]⟩)]) 32 rfl Tryd.underlying22 info32 rfl (by decide) (by omega) _ [] l _ _ _ (fun _ => True) (fun _ => False) rfl rfl HN.out (Kd.C_below HC.out HB.out) (fun _ _ h => h) (fun _ h => h.elim) (fun _ _ => trivial) HB.out HB.out.size (by have := HL.out; simp; omega) ?_; intro v1 w1 ho hb hg hat; have HO := Aside0.mk ho; have HB1 := Aside0.mk hb; clear ho hb hg hat))
    go_ret
    exact ⟨_, rfl, HO.out, HB1.out⟩
end Go.Proofs.YtbcbmmlpgdndpaaDoor.Q
