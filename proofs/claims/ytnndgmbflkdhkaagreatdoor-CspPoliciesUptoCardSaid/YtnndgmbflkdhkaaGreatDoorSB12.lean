/- Functions of the given program as plain Lean functions, each with the proof that the machine answers as it does; laid by a program of mine over the kit print. -/
/- Functions of the given program as plain Lean functions, each with the proof that the machine answers as it does; laid by a program of mine over the kit print. -/
/- Functions of the given program as plain Lean functions, each with the proof that the machine answers as it does; laid by a program of mine over the kit print. -/
/- bastionref14.Same at two that are one: plain. -/
/- Functions of the given program as plain Lean functions, each with the proof that the machine answers as it does; laid by a program of mine over the kit print. -/
/- A Policy opened. -/
/- Functions of the given program as plain Lean functions, each with the proof that the machine answers as it does; laid by a program of mine over the kit print. -/
/- Functions of the given program as plain Lean functions, each with the proof that the machine answers as it does; laid by a program of mine over the kit print. -/
/- CspOwn, plain. -/
import Derived.Test.YtnndgmbflkdhkaaGreatDoorSB4
import Derived.Test.YtnndgmbflkdhkaaGreatDoorSB6
import Derived.Test.YtnndgmbflkdhkaaGreatDoorSB9
import Derived.Test.YtnndgmbflkdhkaaGreatDoorSQbastionref010
import Derived.Test.YtnndgmbflkdhkaaGreatDoorSB5
import Derived.Test.YtnndgmbflkdhkaaGreatDoorSQbastionref14SameA
import Derived.Test.YtnndgmbflkdhkaaGreatDoorSHeader
import Derived.Test.YtnndgmbflkdhkaaGreatDoorSLives
import Derived.Test.YtnndgmbflkdhkaaGreatDoorSQbastionref14SameAllA
import Derived.Test.YtnndgmbflkdhkaaGreatDoorSB11
import Derived.Test.YtnndgmbflkdhkaaGreatDoorSFind
import Derived.Test.YtnndgmbflkdhkaaGreatDoorSQbastionref14SameDirectiveA
import Derived.Test.YtnndgmbflkdhkaaGreatDoorSQcspTextA
section
namespace Go.Proofs.YtnndgmbflkdhkaaGreatDoor.Q
open Go.RowKit Go.Proofs.YtnndgmbflkdhkaaGreatDoorW.PrintWords Go.Proofs.YtnndgmbflkdhkaaGreatDoorW.PrintLast Go.Proofs.YtnndgmbflkdhkaaGreatDoorW.PrintMore
attribute [local go_sem] max2_int min2_int max_two min_two max_three min_three max_four min_four
set_option linter.unusedVariables false
set_option linter.unusedSimpArgs false
end Go.Proofs.YtnndgmbflkdhkaaGreatDoor.Q
end
section
namespace Go.Proofs.YtnndgmbflkdhkaaGreatDoor.Q
open Go.RowKit Go.Proofs.YtnndgmbflkdhkaaGreatDoorW.PrintWords Go.Proofs.YtnndgmbflkdhkaaGreatDoorW.PrintLast Go.Proofs.YtnndgmbflkdhkaaGreatDoorW.PrintMore
attribute [local go_sem] max2_int min2_int max_two min_two max_three min_three max_four min_four
set_option linter.unusedVariables false
set_option linter.unusedSimpArgs false
end Go.Proofs.YtnndgmbflkdhkaaGreatDoor.Q
end
section
namespace Go.Proofs.YtnndgmbflkdhkaaGreatDoor.Q
open Go.RowKit Go.Proofs.YtnndgmbflkdhkaaGreatDoorW.PrintWords Go.Proofs.YtnndgmbflkdhkaaGreatDoorW.PrintLast Go.Proofs.YtnndgmbflkdhkaaGreatDoorW.PrintMore
attribute [local go_sem] max2_int min2_int max_two min_two max_three min_three max_four min_four
set_option linter.unusedVariables false
set_option linter.unusedSimpArgs false
end Go.Proofs.YtnndgmbflkdhkaaGreatDoor.Q
end
section
set_option linter.unusedSimpArgs false
set_option linter.unusedVariables false
namespace Go.Proofs.YtnndgmbflkdhkaaGreatDoor.Q
open Go.RowKit Go.Proofs.YtnndgmbflkdhkaaGreatDoorW.PrintWords Go.Proofs.YtnndgmbflkdhkaaGreatDoorW.PrintLast Go.Proofs.YtnndgmbflkdhkaaGreatDoorW.PrintMore Go.Proofs.YtnndgmbflkdhkaaGreatDoor.P1
theorem sameWords_l (l : List ByteArray) (hl : l.length ≤ 1048576) : ∀ (d k i : Nat), l.length - i = d → d < k → i ≤ l.length → bastionref14_SameWords.l0 k l l (l.length : Int) (i : Int) = some true
  | 0, k, i, hd, hk, hi => by
    obtain ⟨k, rfl⟩ : ∃ m, k = m + 1 := ⟨k - 1, by omega⟩
    unfold bastionref14_SameWords.l0
    rw [if_neg (by omega)]
  | d + 1, k, i, hd, hk, hi => by
    obtain ⟨k, rfl⟩ : ∃ m, k = m + 1 := ⟨k - 1, by omega⟩
    have hw : wrap64 ((i : Int) + 1) = ((i + 1 : Nat) : Int) := by rw [w64 (by omega) (by omega)]; omega
    unfold bastionref14_SameWords.l0
    rw [if_pos (by omega), if_pos (by omega), if_pos (by omega), if_pos (by omega), if_pos rfl, hw]
    exact sameWords_l l hl d k (i + 1) (by omega) (by omega) (by omega)
theorem sameWords_refl (l : List ByteArray) (hl : l.length ≤ 1048576) (k : Nat) (hk : l.length < k) : bastionref14_SameWords.f k l l = some true := by
  unfold bastionref14_SameWords.f
  rw [if_pos rfl]
  exact sameWords_l l hl l.length k 0 (by omega) hk (by omega)
theorem sameDir_refl (x : ByteArray) (l : List ByteArray) (hl : l.length ≤ 1048576) (k : Nat) (hk : l.length < k) : bastionref14_SameDirective.f k x l x l = some true := by
  unfold bastionref14_SameDirective.f
  rw [if_pos rfl, sameWords_refl l hl k hk]; rfl
theorem same_l (ds : List S35) (r : Bool) (M : Nat) (hM : M ≤ 1048576) (hn : ds.length ≤ 1048576) (hd : ∀ d ∈ ds, d.f1.length ≤ M) : ∀ (n k i : Nat), ds.length - i = n → n + M < k → i ≤ ds.length → bastionref14_Same.l0 k (ds.length : Int) (i : Int) ds r ds r = some true
  | 0, k, i, hn', hk, hi => by
    obtain ⟨k, rfl⟩ : ∃ m, k = m + 1 := ⟨k - 1, by omega⟩
    unfold bastionref14_Same.l0
    rw [if_neg (by omega)]
  | n + 1, k, i, hn', hk, hi => by
    obtain ⟨k, rfl⟩ : ∃ m, k = m + 1 := ⟨k - 1, by omega⟩
    have hw : wrap64 ((i : Int) + 1) = ((i + 1 : Nat) : Int) := by rw [w64 (by omega) (by omega)]; omega
    have hr : rd_T35 ds (i : Int) = ds[i]'(by omega) := by
      unfold rd_T35
      simp [List.getD_eq_getElem?_getD, (by omega : i < ds.length)]
    have hm := hd _ (List.getElem_mem (by omega : i < ds.length))
    unfold bastionref14_Same.l0
    rw [if_pos (by omega), if_pos (by omega), if_pos (by omega), if_pos (by omega), hr, sameDir_refl _ _ (by omega) k (by omega), hw]
    simp only [Option.bind_some, if_true]
    exact same_l ds r M hM hn hd n k (i + 1) (by omega) (by omega) (by omega)
theorem same_refl (ds : List S35) (r : Bool) (M : Nat) (hM : M ≤ 1048576) (hn : ds.length ≤ 1048576) (hd : ∀ d ∈ ds, d.f1.length ≤ M) (k : Nat) (hk : ds.length + M + 1 < k) : bastionref14_Same.f k ds r ds r = some true := by
  obtain ⟨k, rfl⟩ : ∃ m, k = m + 1 := ⟨k - 1, by omega⟩
  unfold bastionref14_Same.f
  rw [if_neg (by simp)]
  simp only [bastionref14_Same.j0]
  rw [if_neg (by simp)]
  exact same_l ds r M hM hn hd ds.length k 0 (by omega) (by omega) (by omega)
end Go.Proofs.YtnndgmbflkdhkaaGreatDoor.Q
end
section
namespace Go.Proofs.YtnndgmbflkdhkaaGreatDoor.Q
open Go.RowKit Go.Proofs.YtnndgmbflkdhkaaGreatDoorW.PrintWords Go.Proofs.YtnndgmbflkdhkaaGreatDoorW.PrintLast Go.Proofs.YtnndgmbflkdhkaaGreatDoorW.PrintMore
attribute [local go_sem] max2_int min2_int max_two min_two max_three min_three max_four min_four
set_option linter.unusedVariables false
set_option linter.unusedSimpArgs false
end Go.Proofs.YtnndgmbflkdhkaaGreatDoor.Q
end
section
set_option linter.unusedSimpArgs false
set_option linter.unusedVariables false
namespace Go.Proofs.YtnndgmbflkdhkaaGreatDoor.Q
open Go.RowKit Go.Proofs.YtnndgmbflkdhkaaGreatDoorW.PrintWords Go.Deep Go.ChangeShapes Go.WideShapes
def mStr (s : ByteArray) : Nat := s.size + 1
def mStrs (l : List ByteArray) : Nat := (l.map mStr).sum + 1
def mDir (d : S35) : Nat := mStr d.f0 + ((d.f1.map mStr).sum + 1) + 1
def mPol (p : S25) : Nat := ((p.f0.map mDir).sum + 1) + 1 + 1
section
variable {H : Type} {enc : TypeId × Value → H} {w : World} {base : Nat} {spare : Nat → Bool} {held : Bool}
theorem opens_strs : Opens enc Tryz.prog w base spare held (Kd.slice 9 Kd.string) 33 mStrs := opens_slice Tryz.underlying33 (by kernel_rfl) (opens_string Tryz.underlying9)
theorem opens_dir : Opens enc Tryz.prog w base spare held k35 35 mDir :=
  opens_iso (fun x : S35 => (x.f0, x.f1)) (fun p => ⟨p.1, p.2⟩) (fun _ => rfl) (opens_pair Tryz.underlying35 rfl (by kernel_rfl) (by kernel_rfl) (opens_string Tryz.underlying9) opens_strs)
theorem opens_dirs : Opens enc Tryz.prog w base spare held (Kd.slice 35 k35) 23 (fun l => (l.map mDir).sum + 1) := opens_slice Tryz.underlying23 (by kernel_rfl) opens_dir
theorem opens_pol : Opens enc Tryz.prog w base spare held k25 25 mPol :=
  opens_iso (fun x : S25 => (x.f0, x.f1)) (fun p => ⟨p.1, p.2⟩) (fun _ => rfl) (opens_pair Tryz.underlying25 rfl (by kernel_rfl) (by kernel_rfl) opens_dirs (opens_bool Tryz.underlying4))
end
end Go.Proofs.YtnndgmbflkdhkaaGreatDoor.Q
end
section
namespace Go.Proofs.YtnndgmbflkdhkaaGreatDoor.Q
open Go.RowKit Go.Proofs.YtnndgmbflkdhkaaGreatDoorW.PrintWords Go.Proofs.YtnndgmbflkdhkaaGreatDoorW.PrintLast Go.Proofs.YtnndgmbflkdhkaaGreatDoorW.PrintMore
attribute [local go_sem] max2_int min2_int max_two min_two max_three min_three max_four min_four
set_option linter.unusedVariables false
set_option linter.unusedSimpArgs false
end Go.Proofs.YtnndgmbflkdhkaaGreatDoor.Q
end
section
namespace Go.Proofs.YtnndgmbflkdhkaaGreatDoor.Q
open Go.RowKit Go.Proofs.YtnndgmbflkdhkaaGreatDoorW.PrintWords Go.Proofs.YtnndgmbflkdhkaaGreatDoorW.PrintLast Go.Proofs.YtnndgmbflkdhkaaGreatDoorW.PrintMore
attribute [local go_sem] max2_int min2_int max_two min_two max_three min_three max_four min_four
set_option linter.unusedVariables false
set_option linter.unusedSimpArgs false
end Go.Proofs.YtnndgmbflkdhkaaGreatDoor.Q
end
section
set_option linter.unusedSimpArgs false
set_option linter.unusedVariables false
namespace Go.Proofs.YtnndgmbflkdhkaaGreatDoor.Q
open Go.RowKit Go.Proofs.YtnndgmbflkdhkaaGreatDoorW.PrintWords Go.Proofs.YtnndgmbflkdhkaaGreatDoorW.PrintLast Go.Proofs.YtnndgmbflkdhkaaGreatDoorW.PrintMore Go.Proofs.YtnndgmbflkdhkaaGreatDoor.P1
/-- a policy that is not too great -/
def Small (l : List S35) : Prop := l.length ≤ 1048576 ∧ ∀ d ∈ l, d.f0.size ≤ 1048576 ∧ d.f1.length ≤ 1048576 ∧ ∀ v ∈ d.f1, v.size ≤ 1048576
theorem small_of {x : S25} (h : mPol x ≤ 1048576) : Small x.f0 := by
  have hs : (x.f0.map mDir).sum ≤ 1048576 := by unfold mPol at h; omega
  refine ⟨Nat.le_trans (sum_len mDir (fun d => by unfold mDir; omega) x.f0) hs, fun d hd => ?_⟩
  have h1 := sum_mem mDir x.f0 d hd
  have h2 : mDir d ≤ 1048576 := by omega
  unfold mDir mStr at h2
  have h3 := sum_len (fun s : ByteArray => s.size + 1) (fun s => by omega) d.f1
  refine ⟨by omega, by omega, fun v hv => ?_⟩
  have h4 := sum_mem (fun s : ByteArray => s.size + 1) d.f1 v hv
  omega
theorem Small.all {l : List S35} (h : Small l) : l.all dirSmall = true := List.all_eq_true.2 (fun d hd => by
  obtain ⟨h1, h2, h3⟩ := h.2 d hd
  unfold dirSmall
  rw [decide_eq_true h1, decide_eq_true h2]
  exact List.all_eq_true.2 (fun v hv => decide_eq_true (h3 v hv)))
theorem find_f (l : List S35) (hs : Small l) (r : Bool) (name : ByteArray) : csp_Find.f l r name = some (findF l name) := by
  unfold csp_Find.f
  rw [if_pos ⟨hs.1, List.all_eq_true.2 (fun d hd => decide_eq_true (hs.2 d hd).2.1)⟩]
theorem find_len (l : List S35) (hs : Small l) (name : ByteArray) : (findF l name).2.1.length ≤ 1048576 := by
  unfold findF
  split
  · rename_i d hd
    exact (hs.2 d (List.mem_of_find?_eq_some hd)).2.1
  · simp
theorem text_any (l : List S35) (hs : Small l) (r : Bool) (k : Nat) (hk : 64 < k) : csp_Text.f k l r = some (if okAt l l.length then (B (textL l), 0) else (⟨#[]⟩, 20)) := by
  cases hok : okAt l l.length with
  | true => rw [text_ok l r hok hs.all k hk]; rfl
  | false =>
    unfold csp_Text.f csp_Check.f
    rw [if_pos ⟨hs.1, hs.all⟩, hok]
    rfl
end Go.Proofs.YtnndgmbflkdhkaaGreatDoor.Q
end
