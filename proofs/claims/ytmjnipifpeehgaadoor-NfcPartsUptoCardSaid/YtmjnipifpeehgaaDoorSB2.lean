/- The stable sort of fields, walked: turning about. -/
/- slices.Clone of runes. -/
/- utf.Valid at every text, where the library's two tables stand. -/
import Derived.Test.YtmjnipifpeehgaaDoorSRsB
import Derived.Test.YtmjnipifpeehgaaDoorSNCls
import Derived.Lib.SliceRun
import Derived.Test.YtmjnipifpeehgaaDoorSQbase
import Derived.Shelf.Unicode.ValidAny
import Derived.WalkKit
import Derived.OwnWalk
section
set_option linter.unusedSimpArgs false
set_option linter.unusedVariables false
namespace Go.Proofs.YtmjnipifpeehgaaDoor.Q.I
open Go.RowKit Go.Proofs.YtmjnipifpeehgaaDoorW.PrintWords Go.Proofs.YtmjnipifpeehgaaDoorW.PrintLast Go.Proofs.YtmjnipifpeehgaaDoorW.PrintMore Go.Sort Go.Proofs.YtmjnipifpeehgaaDoor.St Go.Proofs.YtmjnipifpeehgaaDoor.Q
theorem rot_size (m : Nat) : ∀ (f i j : Nat) (d : Array Int), (rot m f i j d).size = d.size
  | 0, _, _, d => rfl
  | f + 1, i, j, d => by
    unfold rot
    split
    · exact swR_size _ _ _ _
    · split
      · rw [rot_size m f, swR_size]
      · rw [rot_size m f, swR_size]
theorem rot_eq (m f i : Nat) (d : Array Int) (hf : 0 < f) : rot m f i i d = swR (m - i) m i d := by
  obtain ⟨f, rfl⟩ : ∃ k, f = k + 1 := ⟨f - 1, by omega⟩
  unfold rot; rw [if_pos rfl]
theorem rot_gt (m f i j : Nat) (d : Array Int) (hf : 0 < f) (h : j < i) : rot m f i j d = rot m (f - 1) (i - j) j (swR (m - i) m j d) := by
  obtain ⟨f, rfl⟩ : ∃ k, f = k + 1 := ⟨f - 1, by omega⟩
  conv => lhs; unfold rot
  rw [if_neg (by omega), if_pos h]; rfl
theorem rot_lt (m f i j : Nat) (d : Array Int) (hf : 0 < f) (h : i < j) : rot m f i j d = rot m (f - 1) i (j - i) (swR (m - i) (m + j - i) i d) := by
  obtain ⟨f, rfl⟩ : ∃ k, f = k + 1 := ⟨f - 1, by omega⟩
  conv => lhs; unfold rot
  rw [if_neg (by omega), if_neg (by omega)]; rfl
set_option maxHeartbeats 4000000 in
set_option maxRecDepth 100000 in
theorem rotate_calls (base g o cap : Nat) (qz : Array Value) (hg : base ≤ g) (fv : Value) (d0 : Array Int) (a m b F : Nat) (w : World) (hbw : base ≤ w.heap.size) (hR : RowA g o qz w d0) (ham : a < m) (hmb : m < b) (hb : b ≤ d0.size) (hF : b - a ≤ F) (hn : d0.size ≤ 1099511627776) :
    Calls Tryd.prog 82 #[.slice (some ⟨g, o, none⟩) d0.size cap, .int .i64 a, .int .i64 m, .int .i64 b, fv] w fun e w' => e = .returned (.tuple #[]) ∧ RowA g o qz w' (rot m F (m - a) (b - m) d0) ∧ Below base w w' := by
  have HR := Lib.hid hR
  have HB0 := Lib.hid (Below.refl base w)
  obtain ⟨N, hN⟩ : ∃ N, N = d0.size := ⟨_, rfl⟩
  rw [← hN] at hb hn ⊢
  have HN := Lib.hid hN
  obtain ⟨i0, hi0⟩ : ∃ i0, i0 = m - a := ⟨_, rfl⟩
  obtain ⟨j0, hj0⟩ : ∃ j0, j0 = b - m := ⟨_, rfl⟩
  rw [← hi0, ← hj0]
  have fi : 0 < i0 ∧ i0 ≤ m ∧ 0 < j0 ∧ m + j0 ≤ N ∧ i0 + j0 ≤ F := by omega
  have wi0 : IntKind.i64.wrap ((m : Int) - (a : Int)) = (i0 : Int) := (wrap_small _ (by omega) (by omega)).trans (by omega)
  have wj0 : IntKind.i64.wrap ((b : Int) - (m : Int)) = (j0 : Int) := (wrap_small _ (by clear wi0; omega) (by clear wi0; omega)).trans (by clear wi0; omega)
  clear hR hN hi0 hj0
  go_enter Tryd.func82, Tryd.ntmps82
  go_wp2
  clear wi0 wj0
  go_loopg [10, 11] (i0 + j0) (fun gg v10 v11 wr => ∃ (i j f : Nat) (d : Array Int), 0 < i ∧ i ≤ m ∧ 0 < j ∧ m + j ≤ N ∧ i + j ≤ f ∧ i + j ≤ gg ∧ v10 = .int .i64 i ∧ v11 = .int .i64 j ∧ Hid (d.size = N) ∧ Hid (rot m f i j d = rot m F i0 j0 d0) ∧ Hid (RowA g o qz wr d) ∧ Hid (Below base w wr))
  case atStart => exact ⟨i0, j0, F, d0, fi.1, fi.2.1, fi.2.2.1, fi.2.2.2.1, fi.2.2.2.2, Nat.le_refl _, rfl, rfl, Lib.hid HN.out.symm, Lib.hid rfl, HR, HB0⟩
  case round =>
    clear HR HB0 HN hF
    obtain ⟨i, j, f, d, q1, q2, q3, q4, q5, q6, rfl, rfl, HS, HD, HR, HB⟩ := hrel
    obtain ⟨P, hP⟩ : ∃ P, P = m - i := ⟨_, rfl⟩
    have wP : IntKind.i64.wrap ((m : Int) - (i : Int)) = (P : Int) := (wrap_small _ (by omega) (by omega)).trans (by omega)
    rcases Nat.lt_trichotomy i j with hij | hij | hij
    · obtain ⟨T, hT⟩ : ∃ T, T = m + j := ⟨_, rfl⟩
      obtain ⟨Q, hQ⟩ : ∃ Q, Q = T - i := ⟨_, rfl⟩
      obtain ⟨J, hJ⟩ : ∃ J, J = j - i := ⟨_, rfl⟩
      have wT : IntKind.i64.wrap ((m : Int) + (j : Int)) = (T : Int) := (wrap_small _ (by clear wP; omega) (by clear wP; omega)).trans (by clear wP; omega)
      have wQ : IntKind.i64.wrap ((T : Int) - (i : Int)) = (Q : Int) := (wrap_small _ (by clear wP wT; omega) (by clear wP wT; omega)).trans (by clear wP wT; omega)
      have wJ : IntKind.i64.wrap ((j : Int) - (i : Int)) = (J : Int) := (wrap_small _ (by clear wP wT wQ; omega) (by clear wP wT wQ; omega)).trans (by clear wP wT wQ; omega)
      have hc := swapRange_calls base g o cap qz hg fv d P Q i wr HR.out (by rw [HS.out]; clear wP wT wQ wJ; omega) (by rw [HS.out]; clear wP wT wQ wJ; omega) (by clear wP wT wQ wJ; omega) (by rw [HS.out]; exact hn)
      rw [HS.out] at hc
      have HD2 := Lib.hid ((rot_lt m f i j d (by clear wP wT wQ wJ; omega) hij).symm.trans HD.out)
      rw [← hP, ← hT, ← hQ, ← hJ] at HD2
      have nxt : 0 < J ∧ m + J ≤ N ∧ i + J ≤ f - 1 ∧ i + J ≤ gk - 1 ∧ i + J < gk := by clear wP wT wQ wJ; omega
      have e1 : ((i : Int) == (j : Int)) = false := beq_eq_false_iff_ne.2 (by clear wP wT wQ wJ; omega)
      have e2 : decide ((j : Int) < (i : Int)) = false := decide_eq_false (by clear wP wT wQ wJ; omega)
      have e3 : ¬ (i : Int) = (j : Int) := by clear wP wT wQ wJ; omega
      have e4 : ¬ j < i := by omega
      have e5 : ¬ i = j := by omega
      clear hP hT hQ hJ HD HR
      go_wp2_with fail
      refine hc.mono ?_
      rintro e w2 ⟨rfl, hr2, hb2⟩
      have HR2 := Lib.hid hr2
      have HB2 := Lib.hid (HB.out.trans hb2)
      clear hc hr2 hb2
      go_wp2
      clear wP wT wQ wJ
      go_roundg (i + J)
      case measure => exact nxt.2.2.2.2
      case rel => exact ⟨i, J, f - 1, swR P Q i d, q1, q2, nxt.1, nxt.2.1, nxt.2.2.1, Nat.le_refl _, rfl, rfl, Lib.hid (by rw [swR_size]; exact HS.out), HD2, HR2, HB2⟩
    · subst hij
      have hc := swapRange_calls base g o cap qz hg fv d P m i wr HR.out (by rw [HS.out]; clear wP; omega) (by rw [HS.out]; clear wP; omega) (by clear wP; omega) (by rw [HS.out]; exact hn)
      rw [HS.out] at hc
      have HD2 := Lib.hid ((rot_eq m f i d (by clear wP; omega)).symm.trans HD.out)
      rw [← hP] at HD2
      clear hP HD HR
      go_wp2_with fail
      refine hc.mono ?_
      rintro e w2 ⟨rfl, hr2, hb2⟩
      have HR2 := Lib.hid hr2
      have HB2 := Lib.hid (HB.out.trans hb2)
      clear hc hr2 hb2
      go_wp2
      go_end0
      exact ⟨rfl, by rw [← HD2.out]; exact HR2.out, HB2.out⟩
    · obtain ⟨I, hI⟩ : ∃ I, I = i - j := ⟨_, rfl⟩
      have wI : IntKind.i64.wrap ((i : Int) - (j : Int)) = (I : Int) := (wrap_small _ (by clear wP; omega) (by clear wP; omega)).trans (by clear wP; omega)
      have hc := swapRange_calls base g o cap qz hg fv d P m j wr HR.out (by rw [HS.out]; clear wP wI; omega) (by rw [HS.out]; clear wP wI; omega) (by clear wP wI; omega) (by rw [HS.out]; exact hn)
      rw [HS.out] at hc
      have HD2 := Lib.hid ((rot_gt m f i j d (by clear wP wI; omega) hij).symm.trans HD.out)
      rw [← hP, ← hI] at HD2
      have nxt : 0 < I ∧ I ≤ m ∧ I + j ≤ f - 1 ∧ I + j < gk := by clear wP wI; omega
      have e1 : ((i : Int) == (j : Int)) = false := beq_eq_false_iff_ne.2 (by clear wP wI; omega)
      have e2 : decide ((j : Int) < (i : Int)) = true := decide_eq_true (by clear wP wI; omega)
      have e3 : ¬ (i : Int) = (j : Int) := by clear wP wI; omega
      have e4 : j < i := hij
      have e5 : ¬ i = j := by omega
      clear hP hI HD HR
      go_wp2_with fail
      refine hc.mono ?_
      rintro e w2 ⟨rfl, hr2, hb2⟩
      have HR2 := Lib.hid hr2
      have HB2 := Lib.hid (HB.out.trans hb2)
      clear hc hr2 hb2
      go_wp2
      clear wP wI
      go_roundg (I + j)
      case measure => exact nxt.2.2.2
      case rel => exact ⟨I, j, f - 1, swR P m j d, nxt.1, nxt.2.1, q3, q4, nxt.2.2.1, Nat.le_refl _, rfl, rfl, Lib.hid (by rw [swR_size]; exact HS.out), HD2, HR2, HB2⟩
end Go.Proofs.YtmjnipifpeehgaaDoor.Q.I
end
section
set_option linter.unusedSimpArgs false
set_option linter.unusedVariables false
namespace Go.Proofs.YtmjnipifpeehgaaDoor.Q
open Go.RowKit Go.Proofs.YtmjnipifpeehgaaDoorW.PrintWords Go.Proofs.YtmjnipifpeehgaaDoorW.PrintLast Go.Proofs.YtmjnipifpeehgaaDoorW.PrintMore
theorem heapNewI (w : World) (o : Obj) : (w.alloc o).heap[w.heap.size]? = some o := by
  rw [show (w.alloc o).heap = w.heap.push o from rfl]
  simp
theorem rowI_new (w : World) : Kd.R (Kd.int .i32) 21 (w.alloc (.cells #[] 21)) w.heap.size (fun _ => True) (.slice (some ⟨w.heap.size, 0, none⟩) 0 0) [] :=
  ⟨fun _ _ => trivial, [], ⟨rfl, .inr ⟨w.heap.size, 0, #[], rfl, Nat.le_refl _, heapNewI _ _, Nat.le_refl _, by unfold maxLen; omega, rfl, rfl⟩⟩, ⟨rfl, fun j x hj => by simp at hj⟩⟩
set_option maxHeartbeats 4000000 in
set_option maxRecDepth 100000 in
theorem cloneI_calls (A : Option Addr) (c : Nat) (l : List Int) (w : World) (hC : Kd.C (Kd.int .i32) w A l.length l) (hc : l.length ≤ c) (hl : l.length ≤ 4398046511103) :
    Calls Tryd.prog 21 #[.slice A l.length c] w fun e w' => ∃ v, e = .returned v ∧ Kd.R (Kd.int .i32) 21 w' w.heap.size (fun _ => True) v l ∧ Below w.heap.size w w' := by
  cases A with
  | none =>
    have h0 : l = [] := by
      cases l with
      | nil => rfl
      | cons x t =>
        obtain ⟨ad, he, _⟩ := hC.2.2 (by simp)
        cases he
    subst h0
    have heq := fun W => Lib.run_eql_slice_nil (P := Tryd.prog) W 29 21 none 0 c 0 0 Tryd.underlying29
    go_enter Tryd.func21, Tryd.ntmps21
    go_wp2
    go_ret
    exact ⟨_, rfl, Kd.R_nil _ _ _ _ _, Below.refl _ _⟩
  | some ad =>
    have HC := Lib.hid hC
    have HN := Lib.hid (rowI_new w)
    have HB := Lib.hid ((Below.refl w.heap.size w).alloc (Nat.le_refl _) (.cells #[] 21))
    have HL := Lib.hid hl
    clear hC hl
    have heq := fun W => Lib.run_eql_slice_nil (P := Tryd.prog) W 29 21 (some ad) l.length c 0 0 Tryd.underlying29
    go_enter Tryd.func21, Tryd.ntmps21
    go_wp2_with (first | ((with_reducible refine gate_dst (N := 7) rfl ?_); refine Kd.R_append_rows (Kd.int .i32) (w0 := w) w.heap.size rfl (.tmp 5) (.tmp 6) 29 21 (.int .i32 0) 4 rfl Tryd.underlying29 info21 rfl (by decide) (by omega) _ [] l _ _ _ (fun _ => True) (fun _ => False) rfl rfl HN.out (Kd.C_below HC.out HB.out) (fun _ _ h => h) (fun _ h => h.elim) (fun _ _ => trivial) HB.out HB.out.size (by have := HL.out; simp; omega) ?_; intro v1 w1 ho hb hg hat; have HO := Aside0.mk ho; have HB1 := Aside0.mk hb; clear ho hb hg hat))
    go_ret
    exact ⟨_, rfl, HO.out, HB1.out⟩
end Go.Proofs.YtmjnipifpeehgaaDoor.Q
end
section
namespace Go.Proofs.YtmjnipifpeehgaaDoor.Q
open Go.RowKit
/-- the two tables of unicode/utf8 -/
def U8T (w : World) : Prop := Lib.Utf8Tabs 0 1 w
theorem U8T.below {w w' : World} (h : U8T w) (hb : Below w.heap.size w w') : U8T w' := by
  have lt : ∀ (p : Addr) (v : Value), w.cell? p = some v → p.block < w.heap.size := by
    intro p v hp
    rcases Nat.lt_or_ge p.block w.heap.size with h' | h'
    · exact h'
    · simp [World.cell?, Array.getElem?_eq_none h'] at hp
  refine ⟨fun c hc => ?_, fun i hi => ⟨?_, ?_⟩⟩
  · rw [hb.cell (lt _ _ (h.1 c hc))]; exact h.1 c hc
  · rw [hb.cell (lt _ _ (h.2 i hi).1)]; exact (h.2 i hi).1
  · rw [hb.cell (lt _ _ (h.2 i hi).2)]; exact (h.2 i hi).2
end Go.Proofs.YtmjnipifpeehgaaDoor.Q
namespace Go.Proofs
open Go.Shelf Go.RowKit
def Tryd.lays196_ren : Go.Shelf.Ren := ⟨fun | 196 => 83 | 259 => 86 | n => n, fun | 0 => 0 | 3 => 3 | 4 => 4 | 5 => 5 | 9 => 9 | 12 => 12 | 46 => 129 | 53 => 135 | 119 => 131 | 138 => 133 | 139 => 134 | n => n, fun | 3 => 0 | 4 => 1 | n => n⟩
theorem Tryd.lays196 : Go.Proofs.Lays.n196 Tryd.prog Tryd.lays196_ren := {
  mixed := by kernel_rfl
  f196 := Tryd.func83.trans (congrArg some (by kernel_rfl))
  f259 := Tryd.func86.trans (congrArg some (by kernel_rfl))
  t0 := Tryd.underlying0
  a0 := Tryd.isAgg0
  z0 := Tryd.sizeOf0
  v0 := Tryd.zeroValue0
  t3 := Tryd.underlying3
  a3 := Tryd.isAgg3
  z3 := Tryd.sizeOf3
  v3 := Tryd.zeroValue3
  t4 := Tryd.underlying4
  a4 := Tryd.isAgg4
  z4 := Tryd.sizeOf4
  v4 := Tryd.zeroValue4
  t5 := Tryd.underlying5
  a5 := Tryd.isAgg5
  z5 := Tryd.sizeOf5
  v5 := Tryd.zeroValue5
  t9 := Tryd.underlying9
  a9 := Tryd.isAgg9
  z9 := Tryd.sizeOf9
  v9 := Tryd.zeroValue9
  t12 := Tryd.underlying12
  a12 := Tryd.isAgg12
  z12 := Tryd.sizeOf12
  v12 := Tryd.zeroValue12
  t46 := Tryd.underlying129
  a46 := Tryd.isAgg129
  z46 := Tryd.sizeOf129
  v46 := Tryd.zeroValue129
  t53 := Tryd.underlying135
  a53 := Tryd.isAgg135
  z53 := Tryd.sizeOf135
  v53 := Tryd.zeroValue135
  t119 := Tryd.underlying131
  a119 := Tryd.isAgg131
  z119 := Tryd.sizeOf131
  t138 := Tryd.underlying133
  a138 := Tryd.isAgg133
  z138 := Tryd.sizeOf133
  v138 := Tryd.zeroValue133
  t139 := Tryd.underlying134
  a139 := Tryd.isAgg134
  z139 := Tryd.sizeOf134
  v139 := Tryd.zeroValue134
  g3 := by kernel_rfl
  g4 := by kernel_rfl }
theorem Tryd.validString (s : ByteArray) (w : World) (hs : s.size ≤ 9223372036854775807) (hT : YtmjnipifpeehgaaDoor.Q.U8T w) :
    Calls Tryd.prog 83 #[.string s] w fun e w' => e = .returned (.bool (Lib.validD s.data.toList)) ∧ Below w.heap.size w w' :=
  Any.utf8_ValidString Tryd.lays196 s w hs hT
end Go.Proofs
namespace Go.Proofs.YtmjnipifpeehgaaDoor.Q
open Go.RowKit
def utf_Valid.f (a0 : ByteArray) : Option Bool := if a0.size ≤ 9223372036854775807 then some (Lib.validD a0.data.toList) else none
theorem utf_Valid.calls (a0 : ByteArray) (r : Bool) (w : World) (hT : UTabs w) (h : utf_Valid.f a0 = some r) :
    Calls Tryd.prog 73 #[.string a0] w fun e w' => e = .returned (.bool r) ∧ Below w.heap.size w w' := by
  unfold utf_Valid.f at h
  split at h
  · rename_i hs
    obtain rfl := Option.some.inj h
    clear h
    go_enter Tryd.func73, Tryd.ntmps73
    go_wp2_with (go_at_call 83; refine (Tryd.validString _ _ hs hT.u8).mono ?_; rintro e w1 ⟨rfl, hb⟩)
    go_ret
    exact ⟨rfl, hb⟩
  · cases h
end Go.Proofs.YtmjnipifpeehgaaDoor.Q
end
