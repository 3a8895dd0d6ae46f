/- csp.Text, plain. -/
/- Arguments opened: what a row's reader reads of lists, texts and structs, as the kinds of the walks. -/
import Derived.Test.YtnndgmbflkdhkaaGreatDoorSCheck
import Derived.Test.YtnndgmbflkdhkaaGreatDoorSB7
import Derived.Test.YtnndgmbflkdhkaaGreatDoorSQcspTextA
import Derived.Test.YtnndgmbflkdhkaaGreatDoorRows
import Derived.Test.YtnndgmbflkdhkaaGreatDoorSWWords
import Derived.Deep.Slices
import Derived.Deep.Strs
import Derived.ChangeArms
import Derived.ChangeSame
section
set_option linter.unusedSimpArgs false
set_option linter.unusedVariables false
namespace Go.Proofs.YtnndgmbflkdhkaaGreatDoor.Q
open Go.RowKit Go.Proofs.YtnndgmbflkdhkaaGreatDoorW.PrintWords Go.Proofs.YtnndgmbflkdhkaaGreatDoorW.PrintLast Go.Proofs.YtnndgmbflkdhkaaGreatDoorW.PrintMore Go.Proofs.YtnndgmbflkdhkaaGreatDoor.P1
def lineL (d : S35) : List UInt8 := Lib.join ((d.f0 :: d.f1).map (·.data.toList)) [32]
def textL (l : List S35) : List UInt8 := Lib.join (l.map lineL) [59, 32]
theorem join_two (x y : List UInt8) (r : List (List UInt8)) (sep : List UInt8) : Lib.join (x :: y :: r) sep = x ++ (sep ++ Lib.join (y :: r) sep) := by simp [Lib.join, List.intercalate, List.intersperse]
theorem join_le (sep : List UInt8) (m : Nat) : ∀ (xs : List (List UInt8)), (∀ x ∈ xs, x.length ≤ m) → (Lib.join xs sep).length ≤ xs.length * (m + sep.length)
  | [], _ => by simp [Lib.join]
  | [x], h => by have := h x (by simp); simp [Lib.join]; omega
  | x :: y :: r, h => by
    have h1 := h x (by simp)
    have h2 := join_le sep m (y :: r) (fun z hz => h z (by simp [hz]))
    rw [join_two]
    simp only [List.length_append, List.length_cons, Nat.add_mul, Nat.one_mul] at h2 ⊢
    omega
theorem okAt_get (l : List S35) : ∀ n, okAt l n = true → l.length ≤ 64 ∧ ∀ i < n, dirOk (l.take i) (rd_T35 l (i : Int)) = true ∧ ((rd_T35 l (i : Int)).f1.any fun v => !wordV v) = false
  | 0, h => ⟨by simpa [okAt] using h, fun i hi => by omega⟩
  | n + 1, h => by
    simp only [okAt, Bool.and_eq_true, Bool.not_eq_true'] at h
    obtain ⟨⟨h1, h2⟩, h3⟩ := h
    obtain ⟨h4, h5⟩ := okAt_get l n h1
    refine ⟨h4, fun i hi => ?_⟩
    by_cases hin : i < n
    · exact h5 i hin
    · obtain rfl : i = n := by omega
      exact ⟨h2, h3⟩
theorem line_join (d : S35) (hs : dirSmall d = true) (h64 : d.f1.length ≤ 64) : strings_Join.f (([d.f0] : List ByteArray) ++ d.f1) (⟨#[32]⟩ : ByteArray) = some (B (lineL d)) ∧ (lineL d).length ≤ 68157505 := by
  simp only [dirSmall, Bool.and_eq_true, decide_eq_true_eq] at hs
  obtain ⟨⟨h1, h2⟩, h3⟩ := hs
  have hall : ∀ x ∈ ((d.f0 :: d.f1).map (·.data.toList)), x.length ≤ 1048576 := by
    intro x hx
    rcases List.mem_map.1 hx with ⟨y, hy, rfl⟩
    rw [Array.length_toList]
    rcases List.mem_cons.1 hy with rfl | hy
    · exact h1
    · exact of_decide_eq_true (List.all_eq_true.1 h3 y hy)
  have hj := join_le [32] 1048576 _ hall
  rw [List.length_map, List.length_cons] at hj
  have hj2 : (lineL d).length ≤ 68157505 := by
    unfold lineL
    refine Nat.le_trans hj ?_
    have : (d.f1.length + 1) * (1048576 + ([32] : List UInt8).length) ≤ 65 * 1048577 := Nat.mul_le_mul (by omega) (by simp)
    omega
  refine ⟨?_, hj2⟩
  unfold strings_Join.f
  rw [if_pos ⟨by simp; omega, by unfold joinB; exact Nat.le_trans hj2 (by omega)⟩]
  rfl
theorem text_l0 (l : List S35) (hl : l.length ≤ 64) (hsm : ∀ d ∈ l, dirSmall d = true) (h64 : ∀ d ∈ l, d.f1.length ≤ 64) : ∀ (n k i : Nat), l.length - i = n → n < k → i ≤ l.length →
    csp_Text.l0 k ((l.take i).map fun d => B (lineL d)) l (l.length : Int) (i : Int) = some (B (textL l), 0) := by
  intro n
  induction n with
  | zero =>
    intro k i hn hk hi
    obtain ⟨k, rfl⟩ : ∃ m, k = m + 1 := ⟨k - 1, by omega⟩
    have hil : i = l.length := by omega
    simp only [csp_Text.l0]
    rw [if_neg (by omega), hil, List.take_length]
    have hall : ∀ x ∈ l.map lineL, x.length ≤ 68157505 := by
      intro x hx
      rcases List.mem_map.1 hx with ⟨d, hd, rfl⟩
      exact (line_join d (hsm d hd) (h64 d hd)).2
    have hj := join_le [59, 32] 68157505 _ hall
    rw [List.length_map] at hj
    have hb : (textL l).length ≤ 140737488355328 := by
      refine Nat.le_trans hj ?_
      have : l.length * (68157505 + ([59, 32] : List UInt8).length) ≤ 64 * 68157507 := Nat.mul_le_mul hl (by simp)
      omega
    have e : joinB (l.map fun d => B (lineL d)) (⟨#[59, 32]⟩ : ByteArray) = textL l := by
      unfold joinB textL
      rw [List.map_map]
      rfl
    unfold strings_Join.f
    rw [e, if_pos ⟨by rw [List.length_map]; omega, hb⟩]
    rfl
  | succ n ih =>
    intro k i hn hk hi
    obtain ⟨k, rfl⟩ : ∃ m, k = m + 1 := ⟨k - 1, by omega⟩
    have hlt : i < l.length := by omega
    have hr : rd_T35 l (i : Int) = l[i]'hlt := by
      unfold rd_T35
      simp [List.getD_eq_getElem?_getD, hlt]
    have hmem : l[i]'hlt ∈ l := List.getElem_mem _
    have hs := hsm _ hmem
    have h6 := h64 _ hmem
    have hw : wrap64 ((i : Int) + 1) = ((i + 1 : Nat) : Int) := by rw [w64 (by omega) (by omega)]; omega
    simp only [csp_Text.l0]
    rw [if_pos (by omega), if_pos (by omega), if_pos (by omega), hr]
    simp only [Option.bind_some]
    rw [if_pos (by simp; omega), (line_join _ hs h6).1]
    simp only [Option.bind_some]
    rw [if_pos (by simp; omega), hw]
    have := ih k (i + 1) (by omega) (by omega) (by omega)
    rw [List.take_add_one, List.getElem?_eq_getElem hlt, Option.toList_some, List.map_append] at this
    exact this
theorem text_ok (l : List S35) (rep : Bool) (hok : okAt l l.length = true) (hsm : l.all dirSmall = true) (k : Nat) (hk : 64 < k) : csp_Text.f k l rep = some (B (textL l), 0) := by
  obtain ⟨hl, hg⟩ := okAt_get l _ hok
  unfold csp_Text.f csp_Check.f
  rw [if_pos ⟨by omega, hsm⟩, hok]
  simp only [Option.bind_some, if_true]
  refine text_l0 l hl (fun d hd => List.all_eq_true.1 hsm d hd) (fun d hd => ?_) l.length k 0 (by omega) (by omega) (by omega)
  obtain ⟨i, hi, rfl⟩ := List.mem_iff_getElem.1 hd
  have h := (hg i hi).1
  have hr : rd_T35 l (i : Int) = l[i]'hi := by
    unfold rd_T35
    simp [List.getD_eq_getElem?_getD, hi]
  rw [hr] at h
  simp only [dirOk, Bool.and_eq_true, decide_eq_true_eq] at h
  exact h.1.2
end Go.Proofs.YtnndgmbflkdhkaaGreatDoor.Q
end
section
set_option linter.unusedSimpArgs false
set_option linter.unusedVariables false
namespace Go.Proofs.YtnndgmbflkdhkaaGreatDoor.Q
open Go.RowKit Go.Proofs.YtnndgmbflkdhkaaGreatDoorW.PrintWords Go.Deep Go.ChangeShapes Go.WideShapes
theorem bulk_one {H : Type} (x : DataW H) : 1 ≤ Rows.uptoBulk x := by
  cases x with
  | lit l => cases l <;> simp [Rows.uptoBulk]
  | nil => simp [Rows.uptoBulk]
  | ptr d => simp [Rows.uptoBulk]
  | slice a b => simp [Rows.uptoBulk]
  | agg a => simp [Rows.uptoBulk]
  | iface t d => simp [Rows.uptoBulk]
  | map e => simp [Rows.uptoBulk]
  | held h => simp [Rows.uptoBulk]
theorem bulk_append {H : Type} : ∀ a b : List (DataW H), Rows.uptoBulkAll (a ++ b) = Rows.uptoBulkAll a + Rows.uptoBulkAll b
  | [], b => by simp [Rows.uptoBulkAll]
  | x :: a, b => by simp only [List.cons_append, Rows.uptoBulkAll, bulk_append a b]; omega
section
variable {H : Type} {enc : TypeId × Value → H} {P : Program} {w : World} {base : Nat} {spare : Nat → Bool} {held : Bool}
/-- whatever is read at type t is of the kind d, no greater than its bulk -/
def Opens {H : Type} (enc : TypeId × Value → H) (P : Program) (w : World) (base : Nat) (spare : Nat → Bool) (held : Bool) {α : Type} (d : Kd α) (t : TypeId) (m : α → Nat) : Prop :=
  ∀ (fuel : Nat) (cs : List Value) (x : DataW H × List MemPlace), DataW.trod enc P w base spare held fuel t cs = some x → ∃ v, d.K w v cs ∧ m v ≤ Rows.uptoBulk x.1
theorem opens_string {t : TypeId} (ht : P.underlying t = some .string) : Opens enc P w base spare held Kd.string t (fun s => s.size + 1) := by
  intro fuel cs x h
  obtain ⟨s, rfl, rfl, _⟩ := DataW.trod_string ht h
  exact ⟨s, rfl, by simp only [Rows.uptoBulk, Array.length_toList]; exact Nat.le_refl _⟩
theorem opens_bool {t : TypeId} (ht : P.underlying t = some .bool) : Opens enc P w base spare held Kd.bool t (fun _ => 1) := by
  intro fuel cs x h
  obtain ⟨s, rfl, rfl⟩ := DataW.trod_bool ht h
  exact ⟨s, rfl, bulk_one _⟩
theorem opens_slice {α : Type} {d : Kd α} {e t : TypeId} {m : α → Nat} (ht : P.underlying t = some (.slice e)) (hc : P.cellsOf e = d.sz) (hd : Opens enc P w base spare held d e m) : Opens enc P w base spare held (Kd.slice e d) t (fun l => (l.map m).sum + 1) := by
  intro fuel cs x h
  rcases open_slice ht h with ⟨rfl, rfl⟩ | ⟨a, len, cap, mm, n, D, Pl, rfl, hb, hl, hm, hmm, rfl, hx⟩
  · exact ⟨[], ⟨none, 0, rfl, Nat.le_refl _, Kd.C_nil d w⟩, by simp [Rows.uptoBulk]⟩
  · have key : ∀ k, k ≤ len → ∃ l : List α, l.length = k ∧ (∀ (j : Nat) p, l[j]? = some p → ∃ cs', w.cells? base (a.add (j * P.cellsOf e)) (P.cellsOf e) = some cs' ∧ d.K w p cs') ∧ (l.map m).sum ≤ Rows.uptoBulkAll ((List.range k).map D) := by
      intro k
      induction k with
      | zero => intro _; exact ⟨[], rfl, fun j p hj => by simp at hj, by simp⟩
      | succ k ih =>
        intro hk
        obtain ⟨l, h1, h2, h3⟩ := ih (by omega)
        have hkm : k < mm := by rw [hmm]; split <;> omega
        obtain ⟨cs', hcs, htr⟩ := hx k hkm
        obtain ⟨v, hv, hmv⟩ := hd _ _ _ htr
        refine ⟨l ++ [v], by simp [h1], fun j p hj => ?_, ?_⟩
        · rw [List.getElem?_append] at hj
          split at hj
          · exact h2 j p hj
          · rename_i hjl
            have hj0 : j = k := by
              have := (List.getElem?_eq_some_iff.1 hj).1
              simp at this
              omega
            subst hj0
            rw [h1, Nat.sub_self] at hj
            obtain rfl : v = p := by simpa using hj
            exact ⟨cs', hcs, hv⟩
        · simp only [List.range_succ, List.map_append, bulk_append, List.sum_append, List.map_cons, List.map_nil, List.sum_cons, List.sum_nil, Rows.uptoBulkAll]
          have hmv' : m v ≤ Rows.uptoBulk (D k) := hmv
          omega
    obtain ⟨l, h1, h2, h3⟩ := key len (Nat.le_refl _)
    refine ⟨l, ⟨some a, cap, by rw [h1], by rw [h1]; exact hl, rfl, by have := hm; unfold maxLen at this; omega, fun _ => ⟨a, rfl, fun j p hj => ?_⟩⟩, ?_⟩
    · obtain ⟨cs', hcs, hK⟩ := h2 j p hj
      obtain ⟨_, hlen, hcell⟩ := World.cells?_some hcs
      refine ⟨cs', d.K_len hK, hK, fun i u hi => ?_⟩
      have hil := (List.getElem?_eq_some_iff.1 hi).1
      have := hcell i (by omega)
      rw [Go.Deep.add_add, hc] at this
      rw [this, hi]
    · simp only [Rows.uptoBulk]
      omega
theorem opens_pair {α β : Type} {d0 : Kd α} {d1 : Kd β} {t : TypeId} {f0 f1 : Field} {m0 : α → Nat} {m1 : β → Nat} (ht : P.underlying t = some (.struct #[f0, f1])) (o0 : f0.offset = 0) (o1 : f1.offset = P.cellsOf f0.type) (hct : P.cellsOf t = P.cellsOf f0.type + P.cellsOf f1.type)
    (h0 : Opens enc P w base spare held d0 f0.type m0) (h1 : Opens enc P w base spare held d1 f1.type m1) : Opens enc P w base spare held (Kd.pair d0 d1) t (fun p => m0 p.1 + m1 p.2 + 1) := by
  intro fuel cs x h
  obtain ⟨y0, y1, n, rfl, hl, k0, k1⟩ := trod_struct2 ht h
  obtain ⟨v0, q0, b0⟩ := h0 _ _ _ k0
  obtain ⟨v1, q1, b1⟩ := h1 _ _ _ k1
  refine ⟨(v0, v1), ⟨_, _, ?_, q0, q1⟩, by simp only [Rows.uptoBulk, Rows.uptoBulkAll]; omega⟩
  rw [o0, o1, List.drop_zero]
  have : (cs.drop (P.cellsOf f0.type)).take (P.cellsOf f1.type) = cs.drop (P.cellsOf f0.type) := List.take_of_length_le (by rw [List.length_drop]; omega)
  rw [this, List.take_append_drop]
theorem opens_iso {α β : Type} {d : Kd α} {t : TypeId} {m : α → Nat} (f : β → α) (g : α → β) (hg : ∀ x, f (g x) = x) (h : Opens enc P w base spare held d t m) : Opens enc P w base spare held (Kd.iso d f) t (fun y => m (f y)) := by
  intro fuel cs x hx
  obtain ⟨v, hv, hb⟩ := h fuel cs x hx
  exact ⟨g v, by show d.K w (f (g v)) cs; rw [hg]; exact hv, by show m (f (g v)) ≤ _; rw [hg]; exact hb⟩
end
theorem sum_mem {α : Type} (m : α → Nat) : ∀ (l : List α), ∀ x ∈ l, m x ≤ (l.map m).sum
  | [], x, h => by cases h
  | y :: l, x, h => by
    simp only [List.map_cons, List.sum_cons]
    rcases List.mem_cons.1 h with rfl | h
    · omega
    · have := sum_mem m l x h; omega
theorem sum_len {α : Type} (m : α → Nat) (h1 : ∀ x, 1 ≤ m x) : ∀ (l : List α), l.length ≤ (l.map m).sum
  | [] => by simp
  | y :: l => by
    have := sum_len m h1 l
    have := h1 y
    simp only [List.map_cons, List.sum_cons, List.length_cons]
    omega
end Go.Proofs.YtnndgmbflkdhkaaGreatDoor.Q
end
