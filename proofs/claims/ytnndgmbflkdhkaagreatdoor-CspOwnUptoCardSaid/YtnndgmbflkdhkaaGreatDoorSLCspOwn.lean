/- CspOwn, plain. -/
import Derived.Test.YtnndgmbflkdhkaaGreatDoorSB5
import Derived.Test.YtnndgmbflkdhkaaGreatDoorSSameL
import Derived.Test.YtnndgmbflkdhkaaGreatDoorSTextL
import Derived.Test.YtnndgmbflkdhkaaGreatDoorSFind
import Derived.Test.YtnndgmbflkdhkaaGreatDoorSQCspOwn
set_option linter.unusedSimpArgs false
set_option linter.unusedVariables false
namespace Go.Proofs.YtnndgmbflkdhkaaGreatDoor.Q
open Go.RowKit Go.Proofs.YtnndgmbflkdhkaaGreatDoorW.PrintWords Go.Proofs.YtnndgmbflkdhkaaGreatDoorW.PrintLast Go.Proofs.YtnndgmbflkdhkaaGreatDoorW.PrintMore Go.Proofs.YtnndgmbflkdhkaaGreatDoor.P1
/-- a policy that is not too great -/
def Small (l : List S35) : Prop := l.length ≤ 1048576 ∧ ∀ d ∈ l, d.f0.size ≤ 1048576 ∧ d.f1.length ≤ 1048576 ∧ ∀ v ∈ d.f1, v.size ≤ 1048576
theorem small_of {x : S25} (h : mPol x ≤ 1048576) : Small x.f0 := by
  have hs : (x.f0.map mDir).sum ≤ 1048576 := by unfold mPol at h; omega
  refine ⟨Nat.le_trans (sum_len mDir (fun d => by unfold mDir; omega) x.f0) hs, fun d hd => ?_⟩
  have h1 := sum_mem mDir x.f0 d hd
  have h2 : mDir d ≤ 1048576 := by omega
  unfold mDir mStr at h2
  have h3 := sum_len (fun s : ByteArray => s.size + 1) (fun s => by omega) d.f1
  refine ⟨by omega, by omega, fun v hv => ?_⟩
  have h4 := sum_mem (fun s : ByteArray => s.size + 1) d.f1 v hv
  omega
theorem Small.all {l : List S35} (h : Small l) : l.all dirSmall = true := List.all_eq_true.2 (fun d hd => by
  obtain ⟨h1, h2, h3⟩ := h.2 d hd
  unfold dirSmall
  rw [decide_eq_true h1, decide_eq_true h2]
  exact List.all_eq_true.2 (fun v hv => decide_eq_true (h3 v hv)))
theorem dir_get2 {ds : List S35} {i : Nat} (h : i < ds.length) : rd_T35 ds (i : Int) = ds[i] := by
  unfold rd_T35
  simp [List.getD_eq_getElem?_getD, h]
theorem copy_l (l : List S35) (hs : Small l) (r : Bool) : ∀ (n k i : Nat), l.length - i = n → n < k → i ≤ l.length → bastionref14_Copy.l0 k l (l.length : Int) (i : Int) (l.take i) r = some (l, r)
  | 0, k, i, hn, hk, hi => by
    obtain ⟨k, rfl⟩ : ∃ m, k = m + 1 := ⟨k - 1, by omega⟩
    simp only [bastionref14_Copy.l0]
    rw [if_neg (by omega), List.take_of_length_le (by omega)]
  | n + 1, k, i, hn, hk, hi => by
    obtain ⟨k, rfl⟩ : ∃ m, k = m + 1 := ⟨k - 1, by omega⟩
    have hlt : i < l.length := by omega
    have hl := hs.1
    have hw : wrap64 ((i : Int) + 1) = ((i + 1 : Nat) : Int) := by rw [w64 (by omega) (by omega)]; omega
    obtain ⟨_, h2, _⟩ := hs.2 _ (List.getElem_mem hlt)
    simp only [bastionref14_Copy.l0]
    rw [if_pos (by omega), if_pos (by omega), if_pos (by omega), dir_get2 hlt]
    simp only [Option.bind_some, List.length_nil, Nat.zero_add, List.nil_append]
    rw [if_pos (by omega), if_pos (by rw [List.length_take]; omega), hw]
    have := copy_l l hs r n k (i + 1) (by omega) (by omega) (by omega)
    rw [List.take_add_one, List.getElem?_eq_getElem hlt, Option.toList_some] at this
    exact this
theorem copy_f (l : List S35) (hs : Small l) (r : Bool) (k : Nat) (hk : l.length < k) : bastionref14_Copy.f k l r = some (l, r) :=
  copy_l l hs r l.length k 0 (by omega) hk (by omega)
theorem find_f (l : List S35) (hs : Small l) (r : Bool) (name : ByteArray) : csp_Find.f l r name = some (findF l name) := by
  unfold csp_Find.f
  rw [if_pos ⟨hs.1, List.all_eq_true.2 (fun d hd => decide_eq_true (hs.2 d hd).2.1)⟩]
theorem find_len (l : List S35) (hs : Small l) (name : ByteArray) : (findF l name).2.1.length ≤ 1048576 := by
  unfold findF
  split
  · rename_i d hd
    exact (hs.2 d (List.mem_of_find?_eq_some hd)).2.1
  · simp
theorem text_any (l : List S35) (hs : Small l) (r : Bool) (k : Nat) (hk : 64 < k) : csp_Text.f k l r = some (if okAt l l.length then (B (textL l), 0) else (⟨#[]⟩, 20)) := by
  cases hok : okAt l l.length with
  | true => rw [text_ok l r hok hs.all k hk]; rfl
  | false =>
    unfold csp_Text.f csp_Check.f
    rw [if_pos ⟨hs.1, hs.all⟩, hok]
    rfl
theorem own_l (l : List S35) (hs : Small l) (r : Bool) (name x : ByteArray) (n : Nat) (hn : n ≤ 1048576) : ∀ (m k i : Nat) (vs : List ByteArray), vs.length = n → n - i = m → m + 2200000 < k → i ≤ n →
    bastionlaw14_CspOwn.l0 k name (findF l name).2.2 (n : Int) (i : Int) l r l r x vs = some true
  | 0, k, i, vs, hv, hm, hk, hi => by
    obtain ⟨k, rfl⟩ : ∃ m, k = m + 1 := ⟨k - 1, by omega⟩
    simp only [bastionlaw14_CspOwn.l0]
    have hl := hs.1
    rw [if_neg (by omega), text_any l hs r k (by omega), find_f l hs r name]
    simp only [Option.bind_some]
    rw [same_refl l r 1048576 (Nat.le_refl _) hs.1 (fun d hd => (hs.2 d hd).2.1) k (by omega)]
    simp only [Option.bind_some, if_true, beq_self_eq_true]
    rw [sameDir_refl _ _ (find_len l hs name) k (by have := find_len l hs name; omega)]
    rfl
  | m + 1, k, i, vs, hv, hm, hk, hi => by
    obtain ⟨k, rfl⟩ : ∃ m, k = m + 1 := ⟨k - 1, by omega⟩
    have hw : wrap64 ((i : Int) + 1) = ((i + 1 : Nat) : Int) := by rw [w64 (by omega) (by omega)]; omega
    simp only [bastionlaw14_CspOwn.l0]
    rw [if_pos (by omega), if_pos (by omega), if_pos (by omega), hw]
    exact own_l l hs r name x n hn m k (i + 1) _ (by rw [List.length_set]; exact hv) (by omega) (by omega) (by omega)
theorem cspOwn_pure (x : S25) (a1 : ByteArray) (h : mPol x + a1.size ≤ 1048576) : ∃ k, bastionlaw14_CspOwn.f k x.f0 x.f1 a1 = some true := by
  have hs := small_of (x := x) (by omega)
  obtain ⟨K, hK⟩ : ∃ K : Nat, 4000000 < K := ⟨4000001, by omega⟩
  refine ⟨K, ?_⟩
  unfold bastionlaw14_CspOwn.f bastionlaw14_lives.f
  simp only [Option.bind_some, if_true]
  rw [copy_f x.f0 hs x.f1 _ (by have := hs.1; omega)]
  simp only [Option.bind_some]
  rw [find_f x.f0 hs x.f1 a1]
  simp only [Option.bind_some]
  exact own_l x.f0 hs x.f1 a1 _ _ (find_len x.f0 hs a1) _ _ 0 _ rfl rfl (by have := find_len x.f0 hs a1; omega) (by omega)
end Go.Proofs.YtnndgmbflkdhkaaGreatDoor.Q
