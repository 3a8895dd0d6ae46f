/- What nfc.Ordered keeps, plain: what is ordered stays; those of one class stay in their order; none passes one of class nought. -/
import Derived.Test.YtmjnipifpeehgaaDoorSB6
set_option linter.unusedSimpArgs false
set_option linter.unusedVariables false
set_option linter.unusedSectionVars false
namespace Go.Proofs.YtmjnipifpeehgaaDoor.St
section
variable (cls : Int → Nat)
abbrev sb (l : List Int) : List Int := stab (leq (cLt cls)) l
abbrev sg (l : List Int) : List Int := segGo cls [] l
def nz (l : List Int) : Prop := ∀ y ∈ l, cls y ≠ 0
theorem stab_mem (le : Int → Int → Bool) (z : Int) : ∀ l : List Int, z ∈ stab le l → z ∈ l
  | [], h => h
  | x :: t, h => by
    rcases mrg_mem _ [x] (stab le t) (Nat.le_refl _) h with h | h
    · rw [List.mem_singleton.1 h]; exact List.mem_cons_self
    · exact List.mem_cons_of_mem _ (stab_mem le z t h)
theorem nz_sb {l : List Int} (h : nz cls l) : nz cls (sb cls l) := fun y hy => h y (stab_mem _ y l hy)
theorem split0 : ∀ l : List Int, nz cls l ∨ ∃ pre x rest, l = pre ++ x :: rest ∧ nz cls pre ∧ cls x = 0
  | [] => .inl (fun y hy => by cases hy)
  | x :: t => by
    by_cases hx : cls x = 0
    · exact .inr ⟨[], x, t, rfl, fun y hy => (by cases hy), hx⟩
    · rcases split0 t with h | ⟨pre, z, rest, rfl, h1, h2⟩
      · refine .inl (fun y hy => ?_)
        rcases List.mem_cons.1 hy with rfl | hy
        · exact hx
        · exact h y hy
      · refine .inr ⟨x :: pre, z, rest, rfl, fun y hy => ?_, h2⟩
        rcases List.mem_cons.1 hy with rfl | hy
        · exact hx
        · exact h1 y hy
theorem sg_nz {l : List Int} (h : nz cls l) : sg cls l = sb cls l := segGo_end cls l [] h
theorem sg_span {pre rest : List Int} {x : Int} (h : nz cls pre) (hx : cls x = 0) : sg cls (pre ++ x :: rest) = sb cls pre ++ x :: sg cls rest := segGo_span cls x hx rest pre [] h
theorem sg_induct (P : List Int → List Int → Prop) (h1 : ∀ pre, nz cls pre → P pre (sb cls pre)) (h2 : ∀ pre x rest, nz cls pre → cls x = 0 → P rest (sg cls rest) → P (pre ++ x :: rest) (sb cls pre ++ x :: sg cls rest)) : ∀ l, P l (sg cls l) := by
  have key : ∀ (n : Nat) (l : List Int), l.length ≤ n → P l (sg cls l) := by
    intro n
    induction n with
    | zero =>
      intro l hl
      obtain rfl := List.length_eq_zero_iff.1 (Nat.le_zero.1 hl)
      have h : nz cls [] := fun y hy => by cases hy
      rw [sg_nz cls h]; exact h1 [] h
    | succ n ih =>
      intro l hl
      rcases split0 cls l with h | ⟨pre, x, rest, rfl, hp, hx⟩
      · rw [sg_nz cls h]; exact h1 l h
      · rw [sg_span cls hp hx]
        refine h2 pre x rest hp hx (ih rest ?_)
        rw [List.length_append, List.length_cons] at hl
        omega
  exact fun l => key l.length l (Nat.le_refl _)
theorem sb_again (l : List Int) : sb cls (sb cls l) = sb cls l := stab_of_sorted _ (stab_sorted (c_tot cls) (c_tr cls) l)
theorem sg_again : ∀ l, sg cls (sg cls l) = sg cls l :=
  sg_induct cls (fun _ a => sg cls a = a) (fun pre h => by rw [sg_nz cls (nz_sb cls h), sb_again]) (fun pre x rest h hx ih => by rw [sg_span cls (nz_sb cls h) hx, sb_again, ih])
theorem sg_filter (p : Int → Bool) (hp : ∀ x y, p x = true → p y = true → cls x = cls y) : ∀ l, (sg cls l).filter p = l.filter p := by
  have hf : ∀ l, (sb cls l).filter p = l.filter p := stab_filter p (fun x y h1 h2 => by
    have := hp x y h1 h2
    unfold leq cLt
    rw [this]
    simp)
  refine sg_induct cls (fun l a => a.filter p = l.filter p) (fun pre _ => hf pre) (fun pre x rest _ _ ih => ?_)
  rw [List.filter_append, List.filter_append, hf, List.filter_cons, List.filter_cons, ih]
theorem sb_len (l : List Int) : (sb cls l).length = l.length := by
  have h : ∀ (u v : List Int), (mrg (leq (cLt cls)) u v).length = u.length + v.length := by
    intro u v
    have key : ∀ (n : Nat) (u v : List Int), u.length + v.length ≤ n → (mrg (leq (cLt cls)) u v).length = u.length + v.length := by
      intro n
      induction n with
      | zero =>
        intro u v h
        obtain rfl := List.length_eq_zero_iff.1 (show u.length = 0 by omega)
        rw [mrg_nil_left]; simp
      | succ n ih =>
        intro u v h
        match u, v with
        | [], v => rw [mrg_nil_left]; simp
        | x :: s, [] => rw [mrg_nil_right]; simp
        | x :: s, y :: t =>
          rw [mrg_cons]
          simp only [List.length_cons] at h
          by_cases hc : leq (cLt cls) x y = true
          · rw [if_pos hc, List.length_cons, ih s (y :: t) (by simp only [List.length_cons]; omega)]; simp; omega
          · rw [if_neg hc, List.length_cons, ih (x :: s) t (by simp only [List.length_cons]; omega)]; simp; omega
    exact key _ u v (Nat.le_refl _)
  induction l with
  | nil => rfl
  | cons x t ih =>
    show (mrg (leq (cLt cls)) [x] (sb cls t)).length = _
    rw [h, ih]; simp; omega
theorem nz_map {l : List Int} (h : nz cls l) : l.map (fun x => cls x == 0) = List.replicate l.length false := by
  rw [List.eq_replicate_iff]
  refine ⟨by simp, fun b hb => ?_⟩
  obtain ⟨x, hx, rfl⟩ := List.mem_map.1 hb
  exact beq_eq_false_iff_ne.2 (h x hx)
theorem sg_zero : ∀ l, (sg cls l).map (fun x => cls x == 0) = l.map (fun x => cls x == 0) :=
  sg_induct cls (fun l a => a.map (fun x => cls x == 0) = l.map (fun x => cls x == 0)) (fun pre h => by rw [nz_map cls h, nz_map cls (nz_sb cls h), sb_len])
    (fun pre x rest h _ ih => by rw [List.map_append, List.map_append, nz_map cls h, nz_map cls (nz_sb cls h), sb_len, List.map_cons, List.map_cons, ih])
/-- one behind the other: no class falls, but to nought -/
def Adj : List Int → Prop
  | [] => True
  | [_] => True
  | x :: y :: t => (cls y ≠ 0 → cls x ≤ cls y) ∧ Adj (y :: t)
theorem adj_zero (x : Int) (hx : cls x = 0) (v : List Int) (hv : Adj cls v) : ∀ u, Adj cls u → Adj cls (u ++ x :: v)
  | [], _ => by
    match v, hv with
    | [], _ => trivial
    | y :: t, h => exact ⟨fun _ => by omega, h⟩
  | [z], _ => ⟨fun h => absurd hx h, adj_zero x hx v hv [] trivial⟩
  | z :: y :: u, h => ⟨h.1, adj_zero x hx v hv (y :: u) h.2⟩
theorem adj_sorted : ∀ l : List Int, Sd (cLt cls) l → Adj cls l
  | [], _ => trivial
  | [_], _ => trivial
  | x :: y :: t, h => by
    have h' := List.pairwise_cons.1 h
    refine ⟨fun _ => ?_, adj_sorted (y :: t) h'.2⟩
    have := h'.1 y List.mem_cons_self
    unfold leq cLt at this
    simp at this
    exact this
theorem sg_adj : ∀ l, Adj cls (sg cls l) :=
  sg_induct cls (fun _ a => Adj cls a) (fun pre _ => adj_sorted cls _ (stab_sorted (c_tot cls) (c_tr cls) pre)) (fun pre x rest _ hx ih => adj_zero cls x hx _ ih _ (adj_sorted cls _ (stab_sorted (c_tot cls) (c_tr cls) pre)))
theorem adj_get : ∀ (l : List Int), Adj cls l → ∀ (i : Nat) (h : i + 1 < l.length), cls l[i + 1] ≠ 0 → cls (l[i]'(by omega)) ≤ cls l[i + 1]
  | [], _, i, h, _ => by simp at h
  | [_], _, i, h, _ => by simp at h
  | x :: y :: t, ha, 0, _, hne => ha.1 hne
  | x :: y :: t, ha, i + 1, h, hne => adj_get (y :: t) ha.2 i (by simpa using h) hne
end
end Go.Proofs.YtmjnipifpeehgaaDoor.St
