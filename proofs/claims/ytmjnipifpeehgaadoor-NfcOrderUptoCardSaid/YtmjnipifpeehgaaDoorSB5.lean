/- The stable sort of fields, walked: turning about. -/
/- slices.Clone of runes. -/
/- The order of lists of numbers, and the document's way to put one more into an ordered list, plain. -/
/- Runes between those of class nought, each stretch in stable order; the document's way, one more at a time: plain. -/
/- tables.may as a test; tables.right, plain. -/
/- Functions of the given program as plain Lean functions, each with the proof that the machine answers as it does; laid by a program of mine over the kit print. -/
import Derived.Test.YtmjnipifpeehgaaDoorSRsB
import Derived.Test.YtmjnipifpeehgaaDoorSNCls
import Derived.Lib.SliceRun
import Derived.Test.YtmjnipifpeehgaaDoorSStab
import Derived.Test.YtmjnipifpeehgaaDoorSQtables1
import Derived.Lib.BufferOwn
import Derived.Lib.HexFns2
import Derived.Deep.AppendLies
import Derived.Maps.AppendAt
import Derived.Test.YtmjnipifpeehgaaDoorSQbase
section
set_option linter.unusedSimpArgs false
set_option linter.unusedVariables false
namespace Go.Proofs.YtmjnipifpeehgaaDoor.Q.I
open Go.RowKit Go.Proofs.YtmjnipifpeehgaaDoorW.PrintWords Go.Proofs.YtmjnipifpeehgaaDoorW.PrintLast Go.Proofs.YtmjnipifpeehgaaDoorW.PrintMore Go.Sort Go.Proofs.YtmjnipifpeehgaaDoor.St Go.Proofs.YtmjnipifpeehgaaDoor.Q
theorem rot_size (m : Nat) : ∀ (f i j : Nat) (d : Array Int), (rot m f i j d).size = d.size
  | 0, _, _, d => rfl
  | f + 1, i, j, d => by
    unfold rot
    split
    · exact swR_size _ _ _ _
    · split
      · rw [rot_size m f, swR_size]
      · rw [rot_size m f, swR_size]
theorem rot_eq (m f i : Nat) (d : Array Int) (hf : 0 < f) : rot m f i i d = swR (m - i) m i d := by
  obtain ⟨f, rfl⟩ : ∃ k, f = k + 1 := ⟨f - 1, by omega⟩
  unfold rot; rw [if_pos rfl]
theorem rot_gt (m f i j : Nat) (d : Array Int) (hf : 0 < f) (h : j < i) : rot m f i j d = rot m (f - 1) (i - j) j (swR (m - i) m j d) := by
  obtain ⟨f, rfl⟩ : ∃ k, f = k + 1 := ⟨f - 1, by omega⟩
  conv => lhs; unfold rot
  rw [if_neg (by omega), if_pos h]; rfl
theorem rot_lt (m f i j : Nat) (d : Array Int) (hf : 0 < f) (h : i < j) : rot m f i j d = rot m (f - 1) i (j - i) (swR (m - i) (m + j - i) i d) := by
  obtain ⟨f, rfl⟩ : ∃ k, f = k + 1 := ⟨f - 1, by omega⟩
  conv => lhs; unfold rot
  rw [if_neg (by omega), if_neg (by omega)]; rfl
set_option maxHeartbeats 4000000 in
set_option maxRecDepth 100000 in
theorem rotate_calls (base g o cap : Nat) (qz : Array Value) (hg : base ≤ g) (fv : Value) (d0 : Array Int) (a m b F : Nat) (w : World) (hbw : base ≤ w.heap.size) (hR : RowA g o qz w d0) (ham : a < m) (hmb : m < b) (hb : b ≤ d0.size) (hF : b - a ≤ F) (hn : d0.size ≤ 1099511627776) :
    Calls Tryd.prog 82 #[.slice (some ⟨g, o, none⟩) d0.size cap, .int .i64 a, .int .i64 m, .int .i64 b, fv] w fun e w' => e = .returned (.tuple #[]) ∧ RowA g o qz w' (rot m F (m - a) (b - m) d0) ∧ Below base w w' := by
  have HR := Lib.hid hR
  have HB0 := Lib.hid (Below.refl base w)
  obtain ⟨N, hN⟩ : ∃ N, N = d0.size := ⟨_, rfl⟩
  rw [← hN] at hb hn ⊢
  have HN := Lib.hid hN
  obtain ⟨i0, hi0⟩ : ∃ i0, i0 = m - a := ⟨_, rfl⟩
  obtain ⟨j0, hj0⟩ : ∃ j0, j0 = b - m := ⟨_, rfl⟩
  rw [← hi0, ← hj0]
  have fi : 0 < i0 ∧ i0 ≤ m ∧ 0 < j0 ∧ m + j0 ≤ N ∧ i0 + j0 ≤ F := by omega
  have wi0 : IntKind.i64.wrap ((m : Int) - (a : Int)) = (i0 : Int) := (wrap_small _ (by omega) (by omega)).trans (by omega)
  have wj0 : IntKind.i64.wrap ((b : Int) - (m : Int)) = (j0 : Int) := (wrap_small _ (by clear wi0; omega) (by clear wi0; omega)).trans (by clear wi0; omega)
  clear hR hN hi0 hj0
  go_enter Tryd.func82, Tryd.ntmps82
  go_wp2
  clear wi0 wj0
  go_loopg [10, 11] (i0 + j0) (fun gg v10 v11 wr => ∃ (i j f : Nat) (d : Array Int), 0 < i ∧ i ≤ m ∧ 0 < j ∧ m + j ≤ N ∧ i + j ≤ f ∧ i + j ≤ gg ∧ v10 = .int .i64 i ∧ v11 = .int .i64 j ∧ Hid (d.size = N) ∧ Hid (rot m f i j d = rot m F i0 j0 d0) ∧ Hid (RowA g o qz wr d) ∧ Hid (Below base w wr))
  case atStart => exact ⟨i0, j0, F, d0, fi.1, fi.2.1, fi.2.2.1, fi.2.2.2.1, fi.2.2.2.2, Nat.le_refl _, rfl, rfl, Lib.hid HN.out.symm, Lib.hid rfl, HR, HB0⟩
  case round =>
    (clear HR HB0 HN hF); (obtain ⟨i, j, f, d, q1, q2, q3, q4, q5, q6, rfl, rfl, HS, HD, HR, HB⟩ := hrel); (obtain ⟨P, hP⟩ : ∃ P, P = m - i := ⟨_, rfl⟩); (have wP : IntKind.i64.wrap ((m : Int) - (i : Int)) = (P : Int) := (wrap_small _ (by omega) (by omega)).trans (by omega))
    rcases Nat.lt_trichotomy i j with hij | hij | hij
    · obtain ⟨T, hT⟩ : ∃ T, T = m + j := ⟨_, rfl⟩
      (obtain ⟨Q, hQ⟩ : ∃ Q, Q = T - i := ⟨_, rfl⟩); (obtain ⟨J, hJ⟩ : ∃ J, J = j - i := ⟨_, rfl⟩); (have wT : IntKind.i64.wrap ((m : Int) + (j : Int)) = (T : Int) := (wrap_small _ (by clear wP; omega) (by clear wP; omega)).trans (by clear wP; omega)); (have wQ : IntKind.i64.wrap ((T : Int) - (i : Int)) = (Q : Int) := (wrap_small _ (by clear wP wT; omega) (by clear wP wT; omega)).trans (by clear wP wT; omega)); (have wJ : IntKind.i64.wrap ((j : Int) - (i : Int)) = (J : Int) := (wrap_small _ (by clear wP wT wQ; omega) (by clear wP wT wQ; omega)).trans (by clear wP wT wQ; omega)); (have hc := swapRange_calls base g o cap qz hg fv d P Q i wr HR.out (by rw [HS.out]; clear wP wT wQ wJ; omega) (by rw [HS.out]; clear wP wT wQ wJ; omega) (by clear wP wT wQ wJ; omega) (by rw [HS.out]; exact hn)); (rw [HS.out] at hc); (have HD2 := Lib.hid ((rot_lt m f i j d (by clear wP wT wQ wJ; omega) hij).symm.trans HD.out)); (rw [← hP, ← hT, ← hQ, ← hJ] at HD2); (have nxt : 0 < J ∧ m + J ≤ N ∧ i + J ≤ f - 1 ∧ i + J ≤ gk - 1 ∧ i + J < gk := by clear wP wT wQ wJ; omega); (have e1 : ((i : Int) == (j : Int)) = false := beq_eq_false_iff_ne.2 (by clear wP wT wQ wJ; omega)); (have e2 : decide ((j : Int) < (i : Int)) = false := decide_eq_false (by clear wP wT wQ wJ; omega)); (have e3 : ¬ (i : Int) = (j : Int) := by clear wP wT wQ wJ; omega); (have e4 : ¬ j < i := by omega); (have e5 : ¬ i = j := by omega); (clear hP hT hQ hJ HD HR); (go_wp2_with fail); (refine hc.mono ?_); (rintro e w2 ⟨rfl, hr2, hb2⟩); (have HR2 := Lib.hid hr2); (have HB2 := Lib.hid (HB.out.trans hb2)); (clear hc hr2 hb2); (go_wp2); (clear wP wT wQ wJ); (go_roundg (i + J))
      case measure => exact nxt.2.2.2.2
      case rel => exact ⟨i, J, f - 1, swR P Q i d, q1, q2, nxt.1, nxt.2.1, nxt.2.2.1, Nat.le_refl _, rfl, rfl, Lib.hid (by rw [swR_size]; exact HS.out), HD2, HR2, HB2⟩
    · subst hij
      (have hc := swapRange_calls base g o cap qz hg fv d P m i wr HR.out (by rw [HS.out]; clear wP; omega) (by rw [HS.out]; clear wP; omega) (by clear wP; omega) (by rw [HS.out]; exact hn)); (rw [HS.out] at hc); (have HD2 := Lib.hid ((rot_eq m f i d (by clear wP; omega)).symm.trans HD.out)); (rw [← hP] at HD2); (clear hP HD HR); (go_wp2_with fail); (refine hc.mono ?_); (rintro e w2 ⟨rfl, hr2, hb2⟩); (have HR2 := Lib.hid hr2); (have HB2 := Lib.hid (HB.out.trans hb2)); (clear hc hr2 hb2); (go_wp2); (go_end0); (exact ⟨rfl, by rw [← HD2.out]; exact HR2.out, HB2.out⟩)
    · obtain ⟨I, hI⟩ : ∃ I, I = i - j := ⟨_, rfl⟩
      (have wI : IntKind.i64.wrap ((i : Int) - (j : Int)) = (I : Int) := (wrap_small _ (by clear wP; omega) (by clear wP; omega)).trans (by clear wP; omega)); (have hc := swapRange_calls base g o cap qz hg fv d P m j wr HR.out (by rw [HS.out]; clear wP wI; omega) (by rw [HS.out]; clear wP wI; omega) (by clear wP wI; omega) (by rw [HS.out]; exact hn)); (rw [HS.out] at hc); (have HD2 := Lib.hid ((rot_gt m f i j d (by clear wP wI; omega) hij).symm.trans HD.out)); (rw [← hP, ← hI] at HD2); (have nxt : 0 < I ∧ I ≤ m ∧ I + j ≤ f - 1 ∧ I + j < gk := by clear wP wI; omega); (have e1 : ((i : Int) == (j : Int)) = false := beq_eq_false_iff_ne.2 (by clear wP wI; omega)); (have e2 : decide ((j : Int) < (i : Int)) = true := decide_eq_true (by clear wP wI; omega)); (have e3 : ¬ (i : Int) = (j : Int) := by clear wP wI; omega); (have e4 : j < i := hij); (have e5 : ¬ i = j := by omega); (clear hP hI HD HR); (go_wp2_with fail); (refine hc.mono ?_); (rintro e w2 ⟨rfl, hr2, hb2⟩); (have HR2 := Lib.hid hr2); (have HB2 := Lib.hid (HB.out.trans hb2)); (clear hc hr2 hb2); (go_wp2); (clear wP wI); (go_roundg (I + j))
      case measure => exact nxt.2.2.2
      case rel => exact ⟨I, j, f - 1, swR P m j d, nxt.1, nxt.2.1, q3, q4, nxt.2.2.1, Nat.le_refl _, rfl, rfl, Lib.hid (by rw [swR_size]; exact HS.out), HD2, HR2, HB2⟩
end Go.Proofs.YtmjnipifpeehgaaDoor.Q.I
end
section
set_option linter.unusedSimpArgs false
set_option linter.unusedVariables false
namespace Go.Proofs.YtmjnipifpeehgaaDoor.Q
open Go.RowKit Go.Proofs.YtmjnipifpeehgaaDoorW.PrintWords Go.Proofs.YtmjnipifpeehgaaDoorW.PrintLast Go.Proofs.YtmjnipifpeehgaaDoorW.PrintMore
theorem heapNewI (w : World) (o : Obj) : (w.alloc o).heap[w.heap.size]? = some o := by
  rw [show (w.alloc o).heap = w.heap.push o from rfl]
  simp
theorem rowI_new (w : World) : Kd.R (Kd.int .i32) 21 (w.alloc (.cells #[] 21)) w.heap.size (fun _ => True) (.slice (some ⟨w.heap.size, 0, none⟩) 0 0) [] :=
  ⟨fun _ _ => trivial, [], ⟨rfl, .inr ⟨w.heap.size, 0, #[], rfl, Nat.le_refl _, heapNewI _ _, Nat.le_refl _, by unfold maxLen; omega, rfl, rfl⟩⟩, ⟨rfl, fun j x hj => by simp at hj⟩⟩
set_option maxHeartbeats 4000000 in
set_option maxRecDepth 100000 in
theorem cloneI_calls (A : Option Addr) (c : Nat) (l : List Int) (w : World) (hC : Kd.C (Kd.int .i32) w A l.length l) (hc : l.length ≤ c) (hl : l.length ≤ 4398046511103) :
    Calls Tryd.prog 21 #[.slice A l.length c] w fun e w' => ∃ v, e = .returned v ∧ Kd.R (Kd.int .i32) 21 w' w.heap.size (fun _ => True) v l ∧ Below w.heap.size w w' := by
  cases A with
  | none =>
    have h0 : l = [] := by
      cases l with
      | nil => rfl
      | cons x t =>
        obtain ⟨ad, he, _⟩ := hC.2.2 (by simp)
        cases he
    subst h0
    have heq := fun W => Lib.run_eql_slice_nil (P := Tryd.prog) W 29 21 none 0 c 0 0 Tryd.underlying29
    go_enter Tryd.func21, Tryd.ntmps21
    go_wp2
    go_ret
    exact ⟨_, rfl, Kd.R_nil _ _ _ _ _, Below.refl _ _⟩
  | some ad =>
    have HC := Lib.hid hC
    have HN := Lib.hid (rowI_new w)
    have HB := Lib.hid ((Below.refl w.heap.size w).alloc (Nat.le_refl _) (.cells #[] 21))
    have HL := Lib.hid hl
    clear hC hl
    have heq := fun W => Lib.run_eql_slice_nil (P := Tryd.prog) W 29 21 (some ad) l.length c 0 0 Tryd.underlying29
    go_enter Tryd.func21, Tryd.ntmps21
    go_wp2_with (first | ((with_reducible refine gate_dst (N := 7) rfl ?_); refine Kd.R_append_rows (Kd.int .i32) (w0 := w) w.heap.size rfl (.tmp 5) (.tmp 6) 29 21 (.int .i32 0) 4 rfl Tryd.underlying29 info21 rfl (by decide) (by omega) _ [] l _ _ _ (fun _ => True) (fun _ => False) rfl rfl HN.out (Kd.C_below HC.out HB.out) (fun _ _ h => h) (fun _ h => h.elim) (fun _ _ => trivial) HB.out HB.out.size (by have := HL.out; simp; omega) ?_; intro v1 w1 ho hb hg hat; have HO := Aside0.mk ho; have HB1 := Aside0.mk hb; clear ho hb hg hat))
    go_ret
    exact ⟨_, rfl, HO.out, HB1.out⟩
end Go.Proofs.YtmjnipifpeehgaaDoor.Q
end
section
set_option linter.unusedSimpArgs false
set_option linter.unusedVariables false
namespace Go.Proofs.YtmjnipifpeehgaaDoor.St
section
variable {α : Type} (key : α → List Int)
end
section
variable {α : Type} [Inhabited α] {lt : α → α → Bool}
end
end Go.Proofs.YtmjnipifpeehgaaDoor.St
end
section
set_option linter.unusedSimpArgs false
set_option linter.unusedVariables false
namespace Go.Proofs.YtmjnipifpeehgaaDoor.St
variable {α : Type} [Inhabited α] (cls : α → Nat)
/-- of a lower class -/
def cLt (x y : α) : Bool := decide (cls x < cls y)
omit [Inhabited α] in
theorem c_tot (x y : α) (h : leq (cLt cls) x y = false) : leq (cLt cls) y x = true := by
  unfold leq cLt at h ⊢
  have : cls y < cls x := by simpa using h
  simp; omega
omit [Inhabited α] in
theorem c_tr (x y z : α) (h1 : leq (cLt cls) x y = true) (h2 : leq (cLt cls) y z = true) : leq (cLt cls) x z = true := by
  unfold leq cLt at h1 h2 ⊢
  simp at h1 h2 ⊢
  omega
def segGo : List α → List α → List α
  | cur, [] => stab (leq (cLt cls)) cur
  | cur, x :: t => if cls x = 0 then stab (leq (cLt cls)) cur ++ x :: segGo [] t else segGo (cur ++ [x]) t
end Go.Proofs.YtmjnipifpeehgaaDoor.St
end
section
set_option linter.unusedSimpArgs false
set_option linter.unusedVariables false
namespace Go.Proofs.YtmjnipifpeehgaaDoor.Q
open Go.RowKit Go.Proofs.YtmjnipifpeehgaaDoorW.PrintWords Go.Proofs.YtmjnipifpeehgaaDoorW.PrintLast Go.Proofs.YtmjnipifpeehgaaDoorW.PrintMore
theorem encode_small (a : Int) : (Utf8.encode a).size ≤ 4 := by
  unfold Utf8.encode
  simp only
  repeat' split
  all_goals first | decide | exact Nat.le_of_ble_eq_true rfl
theorem may_total (a : Int) : ∃ b, tables_may.f a = some b := by
  unfold tables_may.f utf_Valid.f
  rw [if_pos (by have := encode_small a; omega), Option.bind_some]
  repeat' split
  all_goals exact ⟨_, rfl⟩
/-- a rune may be -/
def mayF (a : Int) : Bool := (tables_may.f a).getD false
theorem mayF_eq (a : Int) : tables_may.f a = some (mayF a) := by
  obtain ⟨b, h⟩ := may_total a
  unfold mayF
  rw [h]; rfl
theorem may_calls (a : Int) (w : World) (hT : UTabs w) : Calls Tryd.prog 45 #[.int .i32 a] w fun e w' => e = .returned (.bool (mayF a)) ∧ Below w.heap.size w w' :=
  tables_may.calls a _ w hT (mayF_eq a)
/-- from, to: right behind the last one, and each may be -/
def endsOk (last f t : Int) : Bool := !(decide (f > t)) && !(decide (f ≤ last)) && mayF f && mayF t && !(decide (f < 55296) && decide (t > 57343))
def rightG {α : Type} (fr te : α → Int) (q : α → Bool) : Int → List α → Bool
  | _, [] => true
  | last, x :: l => (endsOk last (fr x) (te x) && q x) && rightG fr te q (te x) l
end Go.Proofs.YtmjnipifpeehgaaDoor.Q
end
section
namespace Go.Proofs.YtmjnipifpeehgaaDoor.Q
open Go.RowKit Go.Proofs.YtmjnipifpeehgaaDoorW.PrintWords Go.Proofs.YtmjnipifpeehgaaDoorW.PrintLast Go.Proofs.YtmjnipifpeehgaaDoorW.PrintMore
attribute [local go_sem] max2_int min2_int max_two min_two max_three min_three max_four min_four
set_option linter.unusedVariables false
set_option linter.unusedSimpArgs false
end Go.Proofs.YtmjnipifpeehgaaDoor.Q
end
