/- A Table opened: its five lists, and what their numbers are. -/
import Derived.Test.YtmjnipifpeehgaaDoorSB4
import Derived.Test.YtmjnipifpeehgaaDoorSQbase
import Derived.Test.YtmjnipifpeehgaaDoorSNLiv
import Derived.Lib.SmallJoins
set_option linter.unusedSimpArgs false
set_option linter.unusedVariables false
namespace Go.Proofs.YtmjnipifpeehgaaDoor.Q
open Go.RowKit Go.Proofs.YtmjnipifpeehgaaDoorW.PrintWords Go.Deep Go.ChangeShapes Go.WideShapes
structure TabR where
  f0 : List Sp
  f1 : List Cl
  f2 : List Pa
  f3 : List Wa
  f4 : List Jo
def okT (x : TabR) : Prop := clsOk x.f1 = true ∧ pairsWf x.f2 = true ∧ ∀ y ∈ x.f1, y.f1 ≤ 255
def mTab (x : TabR) : Nat := x.f0.length + x.f1.length + x.f2.length + x.f3.length + x.f4.length
def KT (w : World) (x : TabR) (cs : List Value) : Prop := ∃ A0 c0 A1 c1 A2 c2 A3 c3 A4 c4, cs = [.slice A0 x.f0.length c0, .slice A1 x.f1.length c1, .slice A2 x.f2.length c2, .slice A3 x.f3.length c3, .slice A4 x.f4.length c4] ∧
  x.f0.length ≤ c0 ∧ Kd.C k71 w A0 x.f0.length x.f0 ∧ x.f1.length ≤ c1 ∧ Kd.C k43 w A1 x.f1.length x.f1 ∧ x.f2.length ≤ c2 ∧ Kd.C k45 w A2 x.f2.length x.f2 ∧ x.f3.length ≤ c3 ∧ Kd.C k85 w A3 x.f3.length x.f3 ∧ x.f4.length ≤ c4 ∧ Kd.C k91 w A4 x.f4.length x.f4 ∧ okT x
theorem tab_open {w : World} {x : TabR} {cs : List Value} (h : KT w x cs) : ∃ A0 c0 A1 c1 A2 c2 A3 c3 A4 c4, cs = [.slice A0 x.f0.length c0, .slice A1 x.f1.length c1, .slice A2 x.f2.length c2, .slice A3 x.f3.length c3, .slice A4 x.f4.length c4] ∧
  x.f0.length ≤ c0 ∧ Kd.C k71 w A0 x.f0.length x.f0 ∧ x.f1.length ≤ c1 ∧ Kd.C k43 w A1 x.f1.length x.f1 ∧ x.f2.length ≤ c2 ∧ Kd.C k45 w A2 x.f2.length x.f2 ∧ x.f3.length ≤ c3 ∧ Kd.C k85 w A3 x.f3.length x.f3 ∧ x.f4.length ≤ c4 ∧ Kd.C k91 w A4 x.f4.length x.f4 ∧ okT x := h
section
variable {H : Type} {enc : TypeId × Value → H} {P : Program} {w : World} {base : Nat} {spare : Nat → Bool} {held : Bool}
/-- whatever is read at type t is of the kind d, and such that p -/
def OpensP {H : Type} (enc : TypeId × Value → H) (P : Program) (w : World) (base : Nat) (spare : Nat → Bool) (held : Bool) {α : Type} (d : Kd α) (t : TypeId) (p : α → Prop) : Prop :=
  ∀ (fuel : Nat) (cs : List Value) (x : DataW H × List MemPlace), DataW.trod enc P w base spare held fuel t cs = some x → ∃ v, d.K w v cs ∧ p v
theorem opensP_int {t : TypeId} {q : IntKind} (ht : P.underlying t = some (.int q)) : OpensP enc P w base spare held (Kd.int q) t (fun n => (Lit.int q n).wf = true) := by
  intro fuel cs x h
  obtain ⟨n, rfl, rfl, hw⟩ := DataW.trod_int ht h
  exact ⟨n, rfl, hw⟩
theorem opensP_bool {t : TypeId} (ht : P.underlying t = some .bool) : OpensP enc P w base spare held Kd.bool t (fun _ => True) := by
  intro fuel cs x h
  obtain ⟨s, rfl, rfl⟩ := DataW.trod_bool ht h
  exact ⟨s, rfl, trivial⟩
/-- a list, with its length against its bulk -/
theorem opensP_slice {α : Type} {d : Kd α} {e t : TypeId} {p : α → Prop} (ht : P.underlying t = some (.slice e)) (hc : P.cellsOf e = d.sz) (hd : OpensP enc P w base spare held d e p) (fuel : Nat) (cs : List Value) (x : DataW H × List MemPlace) (h : DataW.trod enc P w base spare held fuel t cs = some x) :
    ∃ l : List α, (Kd.slice e d).K w l cs ∧ (∀ y ∈ l, p y) ∧ l.length + 1 ≤ Rows.uptoBulk x.1 := by
  have hd' : ∀ (fuel : Nat) (cs : List Value) (x : DataW H × List MemPlace), DataW.trod enc P w base spare held fuel e cs = some x → ∃ v : { v : α // p v }, d.K w v.1 cs := fun fuel cs x h => by obtain ⟨v, h1, h2⟩ := hd fuel cs x h; exact ⟨⟨v, h2⟩, h1⟩
  rcases open_slice ht h with ⟨rfl, rfl⟩ | ⟨a, len, cap, mm, n, D, Pl, rfl, hb, hl, hm, hmm, rfl, hx⟩
  · exact ⟨[], ⟨none, 0, rfl, Nat.le_refl _, Kd.C_nil d w⟩, fun y hy => (by cases hy), by simp [Rows.uptoBulk]⟩
  · have key : ∀ k, k ≤ len → ∃ l : List α, l.length = k ∧ (∀ (j : Nat) q, l[j]? = some q → ∃ cs', w.cells? base (a.add (j * P.cellsOf e)) (P.cellsOf e) = some cs' ∧ d.K w q cs') ∧ (∀ y ∈ l, p y) ∧ k ≤ Rows.uptoBulkAll ((List.range k).map D) := by
      intro k
      induction k with
      | zero => intro _; exact ⟨[], rfl, fun j p hj => by simp at hj, fun y hy => (by cases hy), by simp⟩
      | succ k ih =>
        intro hk
        obtain ⟨l, h1, h2, h2', h3⟩ := ih (by omega)
        have hkm : k < mm := by rw [hmm]; split <;> omega
        obtain ⟨cs', hcs, htr⟩ := hx k hkm
        obtain ⟨v, hv, hpv⟩ := hd _ _ _ htr
        refine ⟨l ++ [v], by simp [h1], fun j q hj => ?_, fun y hy => ?_, ?_⟩
        · rw [List.getElem?_append] at hj
          split at hj
          · exact h2 j q hj
          · rename_i hjl
            have hj0 : j = k := by
              have := (List.getElem?_eq_some_iff.1 hj).1
              simp at this
              omega
            subst hj0
            rw [h1, Nat.sub_self] at hj
            obtain rfl : v = q := by simpa using hj
            exact ⟨cs', hcs, hv⟩
        · rcases List.mem_append.1 hy with hy | hy
          · exact h2' y hy
          · rw [List.mem_singleton.1 hy]; exact hpv
        · simp only [List.range_succ, List.map_append, bulk_append, List.map_cons, List.map_nil, Rows.uptoBulkAll]
          have := bulk_one (D k)
          omega
    obtain ⟨l, h1, h2, h2', h3⟩ := key len (Nat.le_refl _)
    refine ⟨l, ⟨some a, cap, by rw [h1], by rw [h1]; exact hl, rfl, by have := hm; unfold maxLen at this; omega, fun _ => ⟨a, rfl, fun j p hj => ?_⟩⟩, h2', ?_⟩
    · obtain ⟨cs', hcs, hK⟩ := h2 j p hj
      obtain ⟨_, hlen, hcell⟩ := World.cells?_some hcs
      refine ⟨cs', d.K_len hK, hK, fun i u hi => ?_⟩
      have hil := (List.getElem?_eq_some_iff.1 hi).1
      have := hcell i (by omega)
      rw [Go.Deep.add_add, hc] at this
      rw [this, hi]
    · have : ∀ a b : List (DataW H), Rows.uptoBulkAll a + 1 ≤ Rows.uptoBulk (.slice a b) := fun a b => by simp only [Rows.uptoBulk]; omega
      have := this ((List.range len).map D)
      rw [h1]
      exact Nat.le_trans (Nat.succ_le_succ h3) (this _)
theorem opensP_list {α : Type} {d : Kd α} {e t : TypeId} {p : α → Prop} (ht : P.underlying t = some (.slice e)) (hc : P.cellsOf e = d.sz) (hd : OpensP enc P w base spare held d e p) : OpensP enc P w base spare held (Kd.slice e d) t (fun l => ∀ y ∈ l, p y) := fun fuel cs x h => by
  obtain ⟨l, h1, h2, _⟩ := opensP_slice ht hc hd fuel cs x h
  exact ⟨l, h1, h2⟩
end
section
variable {H : Type} {enc : TypeId × Value → H} {w : World} {base : Nat} {spare : Nat → Bool} {held : Bool}
theorem len2 {α : Type} {cs : List α} (h : cs.length = 2) : ∃ a b, cs = [a, b] := by match cs, h with | [a, b], _ => exact ⟨a, b, rfl⟩
theorem len3 {α : Type} {cs : List α} (h : cs.length = 3) : ∃ a b c, cs = [a, b, c] := by match cs, h with | [a, b, c], _ => exact ⟨a, b, c, rfl⟩
theorem len4 {α : Type} {cs : List α} (h : cs.length = 4) : ∃ a b c d, cs = [a, b, c, d] := by match cs, h with | [a, b, c, d], _ => exact ⟨a, b, c, d, rfl⟩
theorem len5 {α : Type} {cs : List α} (h : cs.length = 5) : ∃ a b c d e, cs = [a, b, c, d, e] := by match cs, h with | [a, b, c, d, e], _ => exact ⟨a, b, c, d, e, rfl⟩
theorem wf8 {n : Int} (h : (Lit.int .u8 n).wf = true) : 0 ≤ n ∧ n ≤ 255 := by
  simp only [Lit.wf, Bool.and_eq_true, decide_eq_true_eq] at h
  exact h
theorem s21 : Tryd.prog.cellsOf 21 = 1 := by kernel_rfl
theorem opens_i32 {t : TypeId} (ht : Tryd.prog.underlying t = some (.int .i32)) (hc : Tryd.prog.cellsOf t = 1) {n : Nat} {c : Value} {cs' : List Value} {y : DataW H × List MemPlace} (h : DataW.trod enc Tryd.prog w base spare held n t cs' = some y) (he : cs' = [c]) : ∃ v, c = .int .i32 v ∧ wf32 v = true := by
  subst he
  obtain ⟨v, q, b⟩ := opensP_int (q := .i32) ht _ _ _ h
  have e : [c] = [.int .i32 v] := q
  cases e
  exact ⟨v, rfl, b⟩
theorem opens_u8 {t : TypeId} (ht : Tryd.prog.underlying t = some (.int .u8)) {n : Nat} {c : Value} {cs' : List Value} {y : DataW H × List MemPlace} (h : DataW.trod enc Tryd.prog w base spare held n t cs' = some y) (he : cs' = [c]) : ∃ v, c = .int .u8 v ∧ 0 ≤ v ∧ v ≤ 255 := by
  subst he
  obtain ⟨v, q, b⟩ := opensP_int (q := .u8) ht _ _ _ h
  have e : [c] = [.int .u8 v] := q
  cases e
  exact ⟨v, rfl, wf8 b⟩
theorem opens_bo {t : TypeId} (ht : Tryd.prog.underlying t = some .bool) {n : Nat} {c : Value} {cs' : List Value} {y : DataW H × List MemPlace} (h : DataW.trod enc Tryd.prog w base spare held n t cs' = some y) (he : cs' = [c]) : ∃ v, c = .bool v := by
  subst he
  obtain ⟨v, q, _⟩ := opensP_bool ht _ _ _ h
  have e : [c] = [.bool v] := q
  cases e
  exact ⟨v, rfl⟩
theorem opens_cl : OpensP enc Tryd.prog w base spare held k43 43 (fun x => 0 ≤ x.f1 ∧ x.f1 ≤ 255) := by
  intro fuel cs x h
  obtain ⟨y0, y1, n, rfl, hl, k0, k1⟩ := trod_struct2 Tryd.underlying43 h
  obtain ⟨a, b, rfl⟩ := len2 (hl.trans (by kernel_rfl))
  obtain ⟨v0, rfl, b0⟩ := opens_i32 (c := a) (by kernel_rfl) (by kernel_rfl) k0 (by kernel_rfl)
  obtain ⟨v1, rfl, b1⟩ := opens_u8 (c := b) (by kernel_rfl) k1 (by kernel_rfl)
  exact ⟨⟨v0, v1⟩, ⟨_, _, rfl, rfl, rfl⟩, b1⟩
theorem opens_pa : OpensP enc Tryd.prog w base spare held k45 45 (fun x => wf32 x.f1 = true ∧ wf32 x.f2 = true) := by
  intro fuel cs x h
  obtain ⟨y0, y1, y2, y3, n, rfl, hl, k0, k1, k2, k3⟩ := Go.Joins.trod_struct4 Tryd.underlying45 h
  obtain ⟨a, b, c, d, rfl⟩ := len4 (hl.trans (by kernel_rfl))
  obtain ⟨v0, rfl, b0⟩ := opens_i32 (c := a) (by kernel_rfl) (by kernel_rfl) k0 (by kernel_rfl)
  obtain ⟨v1, rfl, b1⟩ := opens_i32 (c := b) (by kernel_rfl) (by kernel_rfl) k1 (by kernel_rfl)
  obtain ⟨v2, rfl, b2⟩ := opens_i32 (c := c) (by kernel_rfl) (by kernel_rfl) k2 (by kernel_rfl)
  obtain ⟨v3, rfl⟩ := opens_bo (c := d) (by kernel_rfl) k3 (by kernel_rfl)
  exact ⟨⟨v0, v1, v2, v3⟩, ⟨_, _, rfl, rfl, ⟨_, _, rfl, rfl, ⟨_, _, rfl, rfl, rfl⟩⟩⟩, b1, b2⟩
theorem opens_wa : OpensP enc Tryd.prog w base spare held k85 85 (fun _ => True) := by
  intro fuel cs x h
  obtain ⟨y0, y1, y2, n, rfl, hl, k0, k1, k2⟩ := trod_struct3 Tryd.underlying85 h
  obtain ⟨a, b, c, rfl⟩ := len3 (hl.trans (by kernel_rfl))
  obtain ⟨v0, rfl, b0⟩ := opens_i32 (c := a) (by kernel_rfl) (by kernel_rfl) k0 (by kernel_rfl)
  obtain ⟨v1, rfl, b1⟩ := opens_i32 (c := b) (by kernel_rfl) (by kernel_rfl) k1 (by kernel_rfl)
  obtain ⟨v2, rfl, b2⟩ := opens_u8 (c := c) (by kernel_rfl) k2 (by kernel_rfl)
  exact ⟨⟨v0, v1, v2⟩, ⟨_, _, rfl, rfl, ⟨_, _, rfl, rfl, rfl⟩⟩, trivial⟩
theorem opens_jo : OpensP enc Tryd.prog w base spare held k91 91 (fun _ => True) := by
  intro fuel cs x h
  obtain ⟨y0, y1, y2, n, rfl, hl, k0, k1, k2⟩ := trod_struct3 Tryd.underlying91 h
  obtain ⟨a, b, c, rfl⟩ := len3 (hl.trans (by kernel_rfl))
  obtain ⟨v0, rfl, b0⟩ := opens_i32 (c := a) (by kernel_rfl) (by kernel_rfl) k0 (by kernel_rfl)
  obtain ⟨v1, rfl, b1⟩ := opens_i32 (c := b) (by kernel_rfl) (by kernel_rfl) k1 (by kernel_rfl)
  obtain ⟨v2, rfl, b2⟩ := opens_u8 (c := c) (by kernel_rfl) k2 (by kernel_rfl)
  exact ⟨⟨v0, v1, v2⟩, ⟨_, _, rfl, rfl, ⟨_, _, rfl, rfl, rfl⟩⟩, trivial⟩
theorem opens_sp : OpensP enc Tryd.prog w base spare held k71 71 (fun _ => True) := by
  intro fuel cs x h
  obtain ⟨y0, y1, y2, y3, n, rfl, hl, k0, k1, k2, k3⟩ := Go.Joins.trod_struct4 Tryd.underlying71 h
  obtain ⟨a, b, c, d, rfl⟩ := len4 (hl.trans (by kernel_rfl))
  obtain ⟨v0, rfl, b0⟩ := opens_i32 (c := a) (by kernel_rfl) (by kernel_rfl) k0 (by kernel_rfl)
  obtain ⟨v1, rfl, b1⟩ := opens_i32 (c := b) (by kernel_rfl) (by kernel_rfl) k1 (by kernel_rfl)
  obtain ⟨v2, rfl, b2⟩ := opens_u8 (c := c) (by kernel_rfl) k2 (by kernel_rfl)
  obtain ⟨v3, q3, _⟩ := opensP_list (d := Kd.int .i32) (e := 21) (p := fun n => (Lit.int .i32 n).wf = true) (by kernel_rfl) s21 (opensP_int (by kernel_rfl)) _ _ _ k3
  have q3' : (Kd.slice 21 (Kd.int .i32)).K w v3 [d] := (show _ = [d] from by kernel_rfl) ▸ q3
  exact ⟨⟨v0, v1, v2, v3⟩, ⟨_, _, rfl, rfl, ⟨_, _, rfl, rfl, ⟨_, _, rfl, rfl, q3'⟩⟩⟩, trivial⟩
theorem opens_tab (fuel : Nat) (cs : List Value) (x : DataW H × List MemPlace) (h : DataW.trod enc Tryd.prog w base spare held fuel 28 cs = some x) : ∃ v, KT w v cs ∧ mTab v ≤ Rows.uptoBulk x.1 := by
  obtain ⟨xs, n, _, rfl, hl, hlen, hf⟩ := DataW.trod_struct Tryd.underlying28 h
  obtain ⟨a0, a1, a2, a3, a4, rfl⟩ := len5 (hl.trans (by kernel_rfl))
  obtain ⟨y0, y1, y2, y3, y4, rfl⟩ := len5 hlen
  obtain ⟨l0, ⟨A0, c0, e0, q0, r0⟩, _, m0⟩ := opensP_slice (d := k71) (e := 71) (by kernel_rfl) (by kernel_rfl) opens_sp _ _ _ (hf 0 _ rfl)
  obtain ⟨l1, ⟨A1, c1, e1, q1, r1⟩, p1, m1⟩ := opensP_slice (d := k43) (e := 43) (by kernel_rfl) (by kernel_rfl) opens_cl _ _ _ (hf 1 _ rfl)
  obtain ⟨l2, ⟨A2, c2, e2, q2, r2⟩, p2, m2⟩ := opensP_slice (d := k45) (e := 45) (by kernel_rfl) (by kernel_rfl) opens_pa _ _ _ (hf 2 _ rfl)
  obtain ⟨l3, ⟨A3, c3, e3, q3, r3⟩, _, m3⟩ := opensP_slice (d := k85) (e := 85) (by kernel_rfl) (by kernel_rfl) opens_wa _ _ _ (hf 3 _ rfl)
  obtain ⟨l4, ⟨A4, c4, e4, q4, r4⟩, _, m4⟩ := opensP_slice (d := k91) (e := 91) (by kernel_rfl) (by kernel_rfl) opens_jo _ _ _ (hf 4 _ rfl)
  have e0' : [a0] = [.slice A0 l0.length c0] := (show _ = [a0] from by kernel_rfl).symm.trans e0
  have e1' : [a1] = [.slice A1 l1.length c1] := (show _ = [a1] from by kernel_rfl).symm.trans e1
  have e2' : [a2] = [.slice A2 l2.length c2] := (show _ = [a2] from by kernel_rfl).symm.trans e2
  have e3' : [a3] = [.slice A3 l3.length c3] := (show _ = [a3] from by kernel_rfl).symm.trans e3
  have e4' : [a4] = [.slice A4 l4.length c4] := (show _ = [a4] from by kernel_rfl).symm.trans e4
  cases e0'; cases e1'; cases e2'; cases e3'; cases e4'
  refine ⟨⟨l0, l1, l2, l3, l4⟩, ⟨A0, c0, A1, c1, A2, c2, A3, c3, A4, c4, rfl, q0, r0, q1, r1, q2, r2, q3, r3, q4, r4, List.all_eq_true.2 (fun y hy => decide_eq_true (p1 y hy).1), List.all_eq_true.2 (fun y hy => by rw [(p2 y hy).1, (p2 y hy).2]; rfl), fun y hy => (p1 y hy).2⟩, ?_⟩
  simp only [mTab, List.map_cons, List.map_nil, Rows.uptoBulk, Rows.uptoBulkAll]
  omega
end
end Go.Proofs.YtmjnipifpeehgaaDoor.Q
