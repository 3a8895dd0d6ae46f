/- The plain law of UtfJoins. -/
import Derived.Test.YtiobcjgolmiabaaDoorUtfLaws
import Derived.Test.YtiobcjgolmiabaaDoorQUtfJoins
namespace Go.Proofs.YtiobcjgolmiabaaDoor.Q
open Go.RowKit Go.Proofs.YtiobcjgolmiabaaDoorW.PrintWords Go.Proofs.YtiobcjgolmiabaaDoorW.PrintLast Go.Proofs.YtiobcjgolmiabaaDoorW.PrintMore Go.Proofs.YtiobcjgolmiabaaDoor.P1
set_option linter.unusedSimpArgs false
set_option linter.unusedVariables false
theorem fix_all (l : List Int) (h : ∀ x ∈ l, mayR x) : l.map fixR = l := by
  induction l with
  | nil => rfl
  | cons x l ih => rw [List.map_cons, fix_may_eq (h x List.mem_cons_self), ih (fun y hy => h y (List.mem_cons_of_mem _ hy))]
theorem UtfJoins_pure (a b : List Int) (n : Int) (ha : ∀ x ∈ a, (Lit.int .i32 x).wf = true) (hb : ∀ x ∈ b, (Lit.int .i32 x).wf = true) (hn : (Lit.int .i64 n).wf = true) (h : a.length + b.length ≤ 1048576) : ∃ k, bastionlaw02_UtfJoins.f k a b n = some true := by
  have hea := encRunes_len a
  have heb := encRunes_len b
  have hxa : ∀ x ∈ a, inR32 x := fun x hx => wf_32 (ha x hx)
  have hxb : ∀ x ∈ b, inR32 x := fun x hx => wf_32 (hb x hx)
  have hg : ∀ x ∈ (a ++ b).map fixR, mayR x := by
    intro x hx
    obtain ⟨y, _, rfl⟩ := List.mem_map.mp hx
    exact fix_may y
  have hgl : ((a ++ b).map fixR).length = a.length + b.length := by simp
  refine Ev.rounds (g := fun k => bastionlaw02_UtfJoins.f k a b n) ?_
  unfold bastionlaw02_UtfJoins.f
  refine lives_ev.bind (Ev.ite_pos rfl ((Ev.const (utf_Encode_f a (by omega) hxa)).bind ((Ev.const (utf_Encode_f b (by omega) hxb)).bind (Ev.ite_pos (by rw [B_size, B_size]; omega) ((Ev.const rfl).bind (Ev.ite_pos (by simp; omega) ((Ev.const rfl).bind (Ev.ite_pos (by simp; omega) ?_))))))))
  rw [List.nil_append]
  refine (Ev.const (utf_Encode_f (a ++ b) (by simp; omega) (by intro x hx; rcases List.mem_append.mp hx with hx | hx; exact hxa x hx; exact hxb x hx))).bind (Ev.ite_pos (by rw [B_append, encRunes_append]) ?_)
  rw [B_append, ← encRunes_append]
  have hle := encRunes_len (a ++ b)
  refine (Ev.const (utf_Decode_f _ (by simp at hle ⊢; omega))).bind ?_
  rw [uDec_enc0]
  have hj : ∀ b' : Bool, (b' = true ∨ (0 ≤ n ∧ n ≤ (((a ++ b).map fixR).length : Int))) → Ev (fun k => bastionlaw02_UtfJoins.j0 k n (B (encRunes (a ++ b))) ((a ++ b).map fixR) b') true := by
    intro b' hb'
    cases b' with
    | true =>
      refine Ev.mk 1 fun k hk => ?_
      obtain ⟨k, rfl⟩ : ∃ m, k = m + 1 := ⟨k - 1, by omega⟩
      simp only [bastionlaw02_UtfJoins.j0]
      rw [if_pos trivial]
    | false =>
      have hn' : 0 ≤ n ∧ n ≤ (((a ++ b).map fixR).length : Int) := by
        rcases hb' with h | h
        · cases h
        · exact h
      have ht : ∀ x ∈ ((a ++ b).map fixR).take n.toNat, mayR x := fun x hx => hg x (List.mem_of_mem_take hx)
      have hd : ∀ x ∈ ((a ++ b).map fixR).drop n.toNat, mayR x := fun x hx => hg x (List.mem_of_mem_drop hx)
      have htl : (((a ++ b).map fixR).take n.toNat).length ≤ 1048576 := by rw [List.length_take, hgl]; omega
      have hdl : (((a ++ b).map fixR).drop n.toNat).length ≤ 1048576 := by rw [List.length_drop, hgl]; omega
      have e1 := encRunes_len (((a ++ b).map fixR).take n.toNat)
      have e2 := encRunes_len (((a ++ b).map fixR).drop n.toNat)
      refine Ev.succ (f := fun k => _) (fun k => by simp only [bastionlaw02_UtfJoins.j0]; rfl) ?_
      refine Ev.ite_neg (by decide) (Ev.ite_pos hn'.1 (Ev.ite_pos hn'.2 ((Ev.const (utf_Encode_f _ (by omega) (fun x hx => may_32 (ht x hx)))).bind ((Ev.const (utf_Decode_f _ (by omega))).bind ?_))))
      rw [uDec_enc0, fix_all _ ht]
      refine (ref_Same_ev _ _ (by omega)).bind (Ev.ite_pos (by simp) ((Ev.const (utf_Encode_f _ (by omega) (fun x hx => may_32 (ht x hx)))).bind ((Ev.const (utf_Encode_f _ (by omega) (fun x hx => may_32 (hd x hx)))).bind (Ev.ite_pos (by rw [B_size, B_size]; omega) ?_))))
      rw [B_append, ← encRunes_append, List.take_append_drop, enc_map_fix]
      simpa using Ev.now true
  by_cases h0 : n < 0
  · exact Ev.ite_pos h0 (hj true (.inl rfl))
  · refine Ev.ite_neg h0 (hj _ ?_)
    by_cases h1 : n > (((a ++ b).map fixR).length : Int)
    · exact .inl (decide_eq_true h1)
    · exact .inr ⟨by omega, by omega⟩
end Go.Proofs.YtiobcjgolmiabaaDoor.Q
