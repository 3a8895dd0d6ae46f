/- The stable sort of fields, walked: turning about. -/
import Derived.Test.YtbcbmmlpgdndpaaDoorSSrtB
set_option linter.unusedSimpArgs false
set_option linter.unusedVariables false
namespace Go.Proofs.YtbcbmmlpgdndpaaDoor.Q
open Go.RowKit Go.Proofs.YtbcbmmlpgdndpaaDoorW.PrintWords Go.Proofs.YtbcbmmlpgdndpaaDoorW.PrintLast Go.Proofs.YtbcbmmlpgdndpaaDoorW.PrintMore Go.Proofs.YtbcbmmlpgdndpaaDoor.R Go.Sort Go.Proofs.YtbcbmmlpgdndpaaDoor.St
theorem rot_size (m : Nat) : ∀ (f i j : Nat) (d : Array Fld), (rot m f i j d).size = d.size
  | 0, _, _, d => rfl
  | f + 1, i, j, d => by
    unfold rot
    split
    · exact swR_size _ _ _ _
    · split
      · rw [rot_size m f, swR_size]
      · rw [rot_size m f, swR_size]
theorem rot_eq (m f i : Nat) (d : Array Fld) (hf : 0 < f) : rot m f i i d = swR (m - i) m i d := by
  obtain ⟨f, rfl⟩ : ∃ k, f = k + 1 := ⟨f - 1, by omega⟩
  unfold rot; rw [if_pos rfl]
theorem rot_gt (m f i j : Nat) (d : Array Fld) (hf : 0 < f) (h : j < i) : rot m f i j d = rot m (f - 1) (i - j) j (swR (m - i) m j d) := by
  obtain ⟨f, rfl⟩ : ∃ k, f = k + 1 := ⟨f - 1, by omega⟩
  conv => lhs; unfold rot
  rw [if_neg (by omega), if_pos h]; rfl
theorem rot_lt (m f i j : Nat) (d : Array Fld) (hf : 0 < f) (h : i < j) : rot m f i j d = rot m (f - 1) i (j - i) (swR (m - i) (m + j - i) i d) := by
  obtain ⟨f, rfl⟩ : ∃ k, f = k + 1 := ⟨f - 1, by omega⟩
  conv => lhs; unfold rot
  rw [if_neg (by omega), if_neg (by omega)]; rfl
set_option maxHeartbeats 4000000 in
set_option maxRecDepth 100000 in
theorem rotate_calls (base g cap : Nat) (hg : base ≤ g) (fv : Value) (d0 : Array Fld) (a m b F : Nat) (w : World) (hbw : base ≤ w.heap.size) (hR : RowA g cap w d0) (ham : a < m) (hmb : m < b) (hb : b ≤ d0.size) (hF : b - a ≤ F) (hn : d0.size ≤ 1099511627776) :
    Calls Tryd.prog 92 #[.slice (some ⟨g, 0, none⟩) d0.size cap, .int .i64 a, .int .i64 m, .int .i64 b, fv] w fun e w' => e = .returned (.tuple #[]) ∧ RowA g cap w' (rot m F (m - a) (b - m) d0) ∧ Below base w w' := by
  have HR := Lib.hid hR
  have HB0 := Lib.hid (Below.refl base w)
  obtain ⟨N, hN⟩ : ∃ N, N = d0.size := ⟨_, rfl⟩
  rw [← hN] at hb hn ⊢
  have HN := Lib.hid hN
  obtain ⟨i0, hi0⟩ : ∃ i0, i0 = m - a := ⟨_, rfl⟩
  obtain ⟨j0, hj0⟩ : ∃ j0, j0 = b - m := ⟨_, rfl⟩
  rw [← hi0, ← hj0]
  have fi : 0 < i0 ∧ i0 ≤ m ∧ 0 < j0 ∧ m + j0 ≤ N ∧ i0 + j0 ≤ F := by omega
  have wi0 : IntKind.i64.wrap ((m : Int) - (a : Int)) = (i0 : Int) := (wrap_small _ (by omega) (by omega)).trans (by omega)
  have wj0 : IntKind.i64.wrap ((b : Int) - (m : Int)) = (j0 : Int) := (wrap_small _ (by clear wi0; omega) (by clear wi0; omega)).trans (by clear wi0; omega)
  clear hR hN hi0 hj0
  go_enter Tryd.func92, Tryd.ntmps92
  go_wp2
  clear wi0 wj0
  go_loopg [10, 11] (i0 + j0) (fun gg v10 v11 wr => ∃ (i j f : Nat) (d : Array Fld), 0 < i ∧ i ≤ m ∧ 0 < j ∧ m + j ≤ N ∧ i + j ≤ f ∧ i + j ≤ gg ∧ v10 = .int .i64 i ∧ v11 = .int .i64 j ∧ Hid (d.size = N) ∧ Hid (rot m f i j d = rot m F i0 j0 d0) ∧ Hid (RowA g cap wr d) ∧ Hid (Below base w wr))
  case atStart => exact ⟨i0, j0, F, d0, fi.1, fi.2.1, fi.2.2.1, fi.2.2.2.1, fi.2.2.2.2, Nat.le_refl _, rfl, rfl, Lib.hid HN.out.symm, Lib.hid rfl, HR, HB0⟩
  case round =>
    clear HR HB0 HN hF
    obtain ⟨i, j, f, d, q1, q2, q3, q4, q5, q6, rfl, rfl, HS, HD, HR, HB⟩ := hrel
    obtain ⟨P, hP⟩ : ∃ P, P = m - i := ⟨_, rfl⟩
    have wP : IntKind.i64.wrap ((m : Int) - (i : Int)) = (P : Int) := (wrap_small _ (by omega) (by omega)).trans (by omega)
    rcases Nat.lt_trichotomy i j with hij | hij | hij
    · obtain ⟨T, hT⟩ : ∃ T, T = m + j := ⟨_, rfl⟩
      obtain ⟨Q, hQ⟩ : ∃ Q, Q = T - i := ⟨_, rfl⟩
      obtain ⟨J, hJ⟩ : ∃ J, J = j - i := ⟨_, rfl⟩
      have wT : IntKind.i64.wrap ((m : Int) + (j : Int)) = (T : Int) := (wrap_small _ (by clear wP; omega) (by clear wP; omega)).trans (by clear wP; omega)
      have wQ : IntKind.i64.wrap ((T : Int) - (i : Int)) = (Q : Int) := (wrap_small _ (by clear wP wT; omega) (by clear wP wT; omega)).trans (by clear wP wT; omega)
      have wJ : IntKind.i64.wrap ((j : Int) - (i : Int)) = (J : Int) := (wrap_small _ (by clear wP wT wQ; omega) (by clear wP wT wQ; omega)).trans (by clear wP wT wQ; omega)
      have hc := swapRange_calls base g cap hg fv d P Q i wr HR.out (by rw [HS.out]; clear wP wT wQ wJ; omega) (by rw [HS.out]; clear wP wT wQ wJ; omega) (by clear wP wT wQ wJ; omega) (by rw [HS.out]; exact hn)
      rw [HS.out] at hc
      have HD2 := Lib.hid ((rot_lt m f i j d (by clear wP wT wQ wJ; omega) hij).symm.trans HD.out)
      rw [← hP, ← hT, ← hQ, ← hJ] at HD2
      have nxt : 0 < J ∧ m + J ≤ N ∧ i + J ≤ f - 1 ∧ i + J ≤ gk - 1 ∧ i + J < gk := by clear wP wT wQ wJ; omega
      have e1 : ((i : Int) == (j : Int)) = false := beq_eq_false_iff_ne.2 (by clear wP wT wQ wJ; omega)
      have e2 : decide ((j : Int) < (i : Int)) = false := decide_eq_false (by clear wP wT wQ wJ; omega)
      have e3 : ¬ (i : Int) = (j : Int) := by clear wP wT wQ wJ; omega
      have e4 : ¬ j < i := by omega
      have e5 : ¬ i = j := by omega
      clear hP hT hQ hJ HD HR
      go_wp2_with fail
      refine hc.mono ?_
      rintro e w2 ⟨rfl, hr2, hb2⟩
      have HR2 := Lib.hid hr2
      have HB2 := Lib.hid (HB.out.trans hb2)
      clear hc hr2 hb2
      go_wp2
      clear wP wT wQ wJ
      go_roundg (i + J)
      case measure => exact nxt.2.2.2.2
      case rel => exact ⟨i, J, f - 1, swR P Q i d, q1, q2, nxt.1, nxt.2.1, nxt.2.2.1, Nat.le_refl _, rfl, rfl, Lib.hid (by rw [swR_size]; exact HS.out), HD2, HR2, HB2⟩
    · subst hij
      have hc := swapRange_calls base g cap hg fv d P m i wr HR.out (by rw [HS.out]; clear wP; omega) (by rw [HS.out]; clear wP; omega) (by clear wP; omega) (by rw [HS.out]; exact hn)
      rw [HS.out] at hc
      have HD2 := Lib.hid ((rot_eq m f i d (by clear wP; omega)).symm.trans HD.out)
      rw [← hP] at HD2
      clear hP HD HR
      go_wp2_with fail
      refine hc.mono ?_
      rintro e w2 ⟨rfl, hr2, hb2⟩
      have HR2 := Lib.hid hr2
      have HB2 := Lib.hid (HB.out.trans hb2)
      clear hc hr2 hb2
      go_wp2
      go_end0
      exact ⟨rfl, by rw [← HD2.out]; exact HR2.out, HB2.out⟩
    · obtain ⟨I, hI⟩ : ∃ I, I = i - j := ⟨_, rfl⟩
      have wI : IntKind.i64.wrap ((i : Int) - (j : Int)) = (I : Int) := (wrap_small _ (by clear wP; omega) (by clear wP; omega)).trans (by clear wP; omega)
      have hc := swapRange_calls base g cap hg fv d P m j wr HR.out (by rw [HS.out]; clear wP wI; omega) (by rw [HS.out]; clear wP wI; omega) (by clear wP wI; omega) (by rw [HS.out]; exact hn)
      rw [HS.out] at hc
      have HD2 := Lib.hid ((rot_gt m f i j d (by clear wP wI; omega) hij).symm.trans HD.out)
      rw [← hP, ← hI] at HD2
      have nxt : 0 < I ∧ I ≤ m ∧ I + j ≤ f - 1 ∧ I + j < gk := by clear wP wI; omega
      have e1 : ((i : Int) == (j : Int)) = false := beq_eq_false_iff_ne.2 (by clear wP wI; omega)
      have e2 : decide ((j : Int) < (i : Int)) = true := decide_eq_true (by clear wP wI; omega)
      have e3 : ¬ (i : Int) = (j : Int) := by clear wP wI; omega
      have e4 : j < i := hij
      have e5 : ¬ i = j := by omega
      clear hP hI HD HR
      go_wp2_with fail
      refine hc.mono ?_
      rintro e w2 ⟨rfl, hr2, hb2⟩
      have HR2 := Lib.hid hr2
      have HB2 := Lib.hid (HB.out.trans hb2)
      clear hc hr2 hb2
      go_wp2
      clear wP wI
      go_roundg (I + j)
      case measure => exact nxt.2.2.2
      case rel => exact ⟨I, j, f - 1, swR P m j d, nxt.1, nxt.2.1, q3, q4, nxt.2.2.1, Nat.le_refl _, rfl, rfl, Lib.hid (by rw [swR_size]; exact HS.out), HD2, HR2, HB2⟩
end Go.Proofs.YtbcbmmlpgdndpaaDoor.Q
