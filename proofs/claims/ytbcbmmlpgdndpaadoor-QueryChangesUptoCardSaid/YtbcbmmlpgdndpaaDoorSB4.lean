/- The stable sort of fields, walked: turning about. -/
/- A name's units of UTF-16, and how names are compared, plain. -/
import Derived.Test.YtbcbmmlpgdndpaaDoorSSrtB
import Derived.Test.YtbcbmmlpgdndpaaDoorSB12
import Derived.Test.YtbcbmmlpgdndpaaDoorSB10
import Derived.Laws.BitsLemmas
import Derived.Test.YtbcbmmlpgdndpaaDoorSQquery1
import Derived.Test.YtbcbmmlpgdndpaaDoorSQslices0
section
set_option linter.unusedSimpArgs false
set_option linter.unusedVariables false
namespace Go.Proofs.YtbcbmmlpgdndpaaDoor.Q
open Go.RowKit Go.Proofs.YtbcbmmlpgdndpaaDoorW.PrintWords Go.Proofs.YtbcbmmlpgdndpaaDoorW.PrintLast Go.Proofs.YtbcbmmlpgdndpaaDoorW.PrintMore Go.Proofs.YtbcbmmlpgdndpaaDoor.R Go.Sort Go.Proofs.YtbcbmmlpgdndpaaDoor.St
theorem rot_size (m : Nat) : ∀ (f i j : Nat) (d : Array Fld), (rot m f i j d).size = d.size
  | 0, _, _, d => rfl
  | f + 1, i, j, d => by
    unfold rot
    split
    · exact swR_size _ _ _ _
    · split
      · rw [rot_size m f, swR_size]
      · rw [rot_size m f, swR_size]
theorem rot_eq (m f i : Nat) (d : Array Fld) (hf : 0 < f) : rot m f i i d = swR (m - i) m i d := by
  obtain ⟨f, rfl⟩ : ∃ k, f = k + 1 := ⟨f - 1, by omega⟩
  unfold rot; rw [if_pos rfl]
theorem rot_gt (m f i j : Nat) (d : Array Fld) (hf : 0 < f) (h : j < i) : rot m f i j d = rot m (f - 1) (i - j) j (swR (m - i) m j d) := by
  obtain ⟨f, rfl⟩ : ∃ k, f = k + 1 := ⟨f - 1, by omega⟩
  conv => lhs; unfold rot
  rw [if_neg (by omega), if_pos h]; rfl
theorem rot_lt (m f i j : Nat) (d : Array Fld) (hf : 0 < f) (h : i < j) : rot m f i j d = rot m (f - 1) i (j - i) (swR (m - i) (m + j - i) i d) := by
  obtain ⟨f, rfl⟩ : ∃ k, f = k + 1 := ⟨f - 1, by omega⟩
  conv => lhs; unfold rot
  rw [if_neg (by omega), if_neg (by omega)]; rfl
set_option maxHeartbeats 4000000 in
set_option maxRecDepth 100000 in
theorem rotate_calls (base g cap : Nat) (hg : base ≤ g) (fv : Value) (d0 : Array Fld) (a m b F : Nat) (w : World) (hbw : base ≤ w.heap.size) (hR : RowA g cap w d0) (ham : a < m) (hmb : m < b) (hb : b ≤ d0.size) (hF : b - a ≤ F) (hn : d0.size ≤ 1099511627776) :
    Calls Tryd.prog 92 #[.slice (some ⟨g, 0, none⟩) d0.size cap, .int .i64 a, .int .i64 m, .int .i64 b, fv] w fun e w' => e = .returned (.tuple #[]) ∧ RowA g cap w' (rot m F (m - a) (b - m) d0) ∧ Below base w w' := by
  have HR := Lib.hid hR
  have HB0 := Lib.hid (Below.refl base w)
  obtain ⟨N, hN⟩ : ∃ N, N = d0.size := ⟨_, rfl⟩
  rw [← hN] at hb hn ⊢
  have HN := Lib.hid hN
  obtain ⟨i0, hi0⟩ : ∃ i0, i0 = m - a := ⟨_, rfl⟩
  obtain ⟨j0, hj0⟩ : ∃ j0, j0 = b - m := ⟨_, rfl⟩
  rw [← hi0, ← hj0]
  have fi : 0 < i0 ∧ i0 ≤ m ∧ 0 < j0 ∧ m + j0 ≤ N ∧ i0 + j0 ≤ F := by omega
  have wi0 : IntKind.i64.wrap ((m : Int) - (a : Int)) = (i0 : Int) := (wrap_small _ (by omega) (by omega)).trans (by omega)
  have wj0 : IntKind.i64.wrap ((b : Int) - (m : Int)) = (j0 : Int) := (wrap_small _ (by clear wi0; omega) (by clear wi0; omega)).trans (by clear wi0; omega)
  clear hR hN hi0 hj0
  go_enter Tryd.func92, Tryd.ntmps92
  go_wp2
  clear wi0 wj0
  go_loopg [10, 11] (i0 + j0) (fun gg v10 v11 wr => ∃ (i j f : Nat) (d : Array Fld), 0 < i ∧ i ≤ m ∧ 0 < j ∧ m + j ≤ N ∧ i + j ≤ f ∧ i + j ≤ gg ∧ v10 = .int .i64 i ∧ v11 = .int .i64 j ∧ Hid (d.size = N) ∧ Hid (rot m f i j d = rot m F i0 j0 d0) ∧ Hid (RowA g cap wr d) ∧ Hid (Below base w wr))
  case atStart => exact ⟨i0, j0, F, d0, fi.1, fi.2.1, fi.2.2.1, fi.2.2.2.1, fi.2.2.2.2, Nat.le_refl _, rfl, rfl, Lib.hid HN.out.symm, Lib.hid rfl, HR, HB0⟩
  case round =>
    clear HR HB0 HN hF
    obtain ⟨i, j, f, d, q1, q2, q3, q4, q5, q6, rfl, rfl, HS, HD, HR, HB⟩ := hrel
    obtain ⟨P, hP⟩ : ∃ P, P = m - i := ⟨_, rfl⟩
    have wP : IntKind.i64.wrap ((m : Int) - (i : Int)) = (P : Int) := (wrap_small _ (by omega) (by omega)).trans (by omega)
    rcases Nat.lt_trichotomy i j with hij | hij | hij
    · obtain ⟨T, hT⟩ : ∃ T, T = m + j := ⟨_, rfl⟩
      obtain ⟨Q, hQ⟩ : ∃ Q, Q = T - i := ⟨_, rfl⟩
      obtain ⟨J, hJ⟩ : ∃ J, J = j - i := ⟨_, rfl⟩
      have wT : IntKind.i64.wrap ((m : Int) + (j : Int)) = (T : Int) := (wrap_small _ (by clear wP; omega) (by clear wP; omega)).trans (by clear wP; omega)
      have wQ : IntKind.i64.wrap ((T : Int) - (i : Int)) = (Q : Int) := (wrap_small _ (by clear wP wT; omega) (by clear wP wT; omega)).trans (by clear wP wT; omega)
      have wJ : IntKind.i64.wrap ((j : Int) - (i : Int)) = (J : Int) := (wrap_small _ (by clear wP wT wQ; omega) (by clear wP wT wQ; omega)).trans (by clear wP wT wQ; omega)
      have hc := swapRange_calls base g cap hg fv d P Q i wr HR.out (by rw [HS.out]; clear wP wT wQ wJ; omega) (by rw [HS.out]; clear wP wT wQ wJ; omega) (by clear wP wT wQ wJ; omega) (by rw [HS.out]; exact hn)
      rw [HS.out] at hc
      have HD2 := Lib.hid ((rot_lt m f i j d (by clear wP wT wQ wJ; omega) hij).symm.trans HD.out)
      rw [← hP, ← hT, ← hQ, ← hJ] at HD2
      have nxt : 0 < J ∧ m + J ≤ N ∧ i + J ≤ f - 1 ∧ i + J ≤ gk - 1 ∧ i + J < gk := by clear wP wT wQ wJ; omega
      have e1 : ((i : Int) == (j : Int)) = false := beq_eq_false_iff_ne.2 (by clear wP wT wQ wJ; omega)
      have e2 : decide ((j : Int) < (i : Int)) = false := decide_eq_false (by clear wP wT wQ wJ; omega)
      have e3 : ¬ (i : Int) = (j : Int) := by clear wP wT wQ wJ; omega
      have e4 : ¬ j < i := by omega
      have e5 : ¬ i = j := by omega
      clear hP hT hQ hJ HD HR
      go_wp2_with fail
      refine hc.mono ?_
      rintro e w2 ⟨rfl, hr2, hb2⟩
      have HR2 := Lib.hid hr2
      have HB2 := Lib.hid (HB.out.trans hb2)
      clear hc hr2 hb2
      go_wp2
      clear wP wT wQ wJ
      go_roundg (i + J)
      case measure => exact nxt.2.2.2.2
      case rel => exact ⟨i, J, f - 1, swR P Q i d, q1, q2, nxt.1, nxt.2.1, nxt.2.2.1, Nat.le_refl _, rfl, rfl, Lib.hid (by rw [swR_size]; exact HS.out), HD2, HR2, HB2⟩
    · subst hij
      have hc := swapRange_calls base g cap hg fv d P m i wr HR.out (by rw [HS.out]; clear wP; omega) (by rw [HS.out]; clear wP; omega) (by clear wP; omega) (by rw [HS.out]; exact hn)
      rw [HS.out] at hc
      have HD2 := Lib.hid ((rot_eq m f i d (by clear wP; omega)).symm.trans HD.out)
      rw [← hP] at HD2
      clear hP HD HR
      go_wp2_with fail
      refine hc.mono ?_
      rintro e w2 ⟨rfl, hr2, hb2⟩
      have HR2 := Lib.hid hr2
      have HB2 := Lib.hid (HB.out.trans hb2)
      clear hc hr2 hb2
      go_wp2
      go_end0
      exact ⟨rfl, by rw [← HD2.out]; exact HR2.out, HB2.out⟩
    · obtain ⟨I, hI⟩ : ∃ I, I = i - j := ⟨_, rfl⟩
      have wI : IntKind.i64.wrap ((i : Int) - (j : Int)) = (I : Int) := (wrap_small _ (by clear wP; omega) (by clear wP; omega)).trans (by clear wP; omega)
      have hc := swapRange_calls base g cap hg fv d P m j wr HR.out (by rw [HS.out]; clear wP wI; omega) (by rw [HS.out]; clear wP wI; omega) (by clear wP wI; omega) (by rw [HS.out]; exact hn)
      rw [HS.out] at hc
      have HD2 := Lib.hid ((rot_gt m f i j d (by clear wP wI; omega) hij).symm.trans HD.out)
      rw [← hP, ← hI] at HD2
      have nxt : 0 < I ∧ I ≤ m ∧ I + j ≤ f - 1 ∧ I + j < gk := by clear wP wI; omega
      have e1 : ((i : Int) == (j : Int)) = false := beq_eq_false_iff_ne.2 (by clear wP wI; omega)
      have e2 : decide ((j : Int) < (i : Int)) = true := decide_eq_true (by clear wP wI; omega)
      have e3 : ¬ (i : Int) = (j : Int) := by clear wP wI; omega
      have e4 : j < i := hij
      have e5 : ¬ i = j := by omega
      clear hP hI HD HR
      go_wp2_with fail
      refine hc.mono ?_
      rintro e w2 ⟨rfl, hr2, hb2⟩
      have HR2 := Lib.hid hr2
      have HB2 := Lib.hid (HB.out.trans hb2)
      clear hc hr2 hb2
      go_wp2
      clear wP wI
      go_roundg (I + j)
      case measure => exact nxt.2.2.2
      case rel => exact ⟨I, j, f - 1, swR P m j d, nxt.1, nxt.2.1, q3, q4, nxt.2.2.1, Nat.le_refl _, rfl, rfl, Lib.hid (by rw [swR_size]; exact HS.out), HD2, HR2, HB2⟩
end Go.Proofs.YtbcbmmlpgdndpaaDoor.Q
end
section
set_option linter.unusedSimpArgs false
set_option linter.unusedVariables false
namespace Go.Proofs.YtbcbmmlpgdndpaaDoor.Q
open Go.RowKit Go.Proofs.YtbcbmmlpgdndpaaDoorW.PrintWords Go.Proofs.YtbcbmmlpgdndpaaDoorW.PrintLast Go.Proofs.YtbcbmmlpgdndpaaDoorW.PrintMore Go.Proofs.YtbcbmmlpgdndpaaDoor.P1 Go.Proofs.YtbcbmmlpgdndpaaDoor.St
def uns (r : Int) : List Int := if r > 65535 then [55296 + (r - 65536) / 1024, 56320 + (r - 65536) % 1024] else [r]
/-- a text's units -/
def unitsL (l : List UInt8) : List Int := (uDec l).flatMap uns
theorem uns_len (r : Int) : (uns r).length ≤ 2 := by unfold uns; split <;> simp
theorem flat_uns_len (l : List Int) : (l.flatMap uns).length ≤ 2 * l.length := by
  induction l with
  | nil => simp
  | cons x l ih =>
    have := uns_len x
    rw [List.flatMap_cons, List.length_append, List.length_cons]; omega
theorem unitsL_len (l : List UInt8) : (unitsL l).length ≤ 2 * l.length := by
  have h1 := flat_uns_len (uDec l)
  have h2 := uDec_length l.length l (Nat.le_refl _)
  unfold unitsL; omega
theorem u16w {z : Int} (h0 : 0 ≤ z) (h1 : z < 65536) : IntKind.u16.wrap z = z := by
  have : IntKind.u16.wrap z = z % 65536 := by simp [IntKind.wrap, IntKind.signed, IntKind.bits]
  rw [this]; omega
theorem and1023 (x : Int) (h0 : 0 ≤ x) (h1 : x < 2147483648) : Go.bits .and .i32 x 1023 = x % 1024 := bits_mask .i32 31 (by decide) wraps_i32 10 (by decide) x h0 (by simpa using h1)
theorem rd_at (p r : List Int) (x : Int) : rd (p ++ x :: r) (p.length : Int) = x := rd_end p r x _ rfl
theorem units_l0 : ∀ (r p : List Int) (x : List Int), (∀ z ∈ r, mayR z) → x.length + 2 * r.length ≤ 1000000000 → p.length + r.length ≤ 1000000000 → Ev (fun k => query_units.l0 k x (p ++ r) ((p ++ r).length : Int) (p.length : Int)) (x ++ r.flatMap uns)
  | [], p, x, hr, hx, hp => by
    refine Ev.succ (f := fun _ => some x) (fun k => ?_) (by simpa using Ev.now x)
    simp only [query_units.l0]
    rw [if_neg (by simp)]
  | c :: r, p, x, hr, hx, hp => by
    simp only [List.length_cons] at hx hp
    have hc := hr c (by simp)
    have hul := uns_len c
    have ih := units_l0 r (p ++ [c]) (x ++ uns c) (fun z hz => hr z (by simp [hz])) (by simp; omega) (by simp; omega)
    rw [show (p ++ [c]) ++ r = p ++ c :: r by simp, show (((p ++ [c]).length : Nat) : Int) = (p.length : Int) + 1 by simp] at ih
    rw [List.flatMap_cons, ← List.append_assoc]
    have hc2 := hc
    unfold mayR at hc2
    by_cases h : c > 65535
    · have hu : uns c = [55296 + (c - 65536) / 1024, 56320 + (c - 65536) % 1024] := if_pos h
      have e1 : IntKind.u16.wrap (wrap32 (55296 + ((wrap32 (c - 65536)) / 1024))) = 55296 + (c - 65536) / 1024 := by
        rw [w32 (i := c - 65536) (by omega) (by omega), w32 (by omega) (by omega), u16w (by omega) (by omega)]
      have e2 : IntKind.u16.wrap (wrap32 (56320 + (Go.bits .and .i32 (wrap32 (c - 65536)) 1023))) = 56320 + (c - 65536) % 1024 := by
        rw [w32 (i := c - 65536) (by omega) (by omega), and1023 _ (by omega) (by omega), w32 (by omega) (by omega), u16w (by omega) (by omega)]
      refine Ev.succ (f := ?f) (fun k => ?h) ?e
      case h =>
        simp only [query_units.l0]
        rw [if_pos (by simp; omega), if_pos (by omega), if_pos (by simp; omega), rd_at, if_pos h, e1, e2, ← hu, w64 (by omega) (by omega)]
      simp only [Option.bind_some]
      exact Ev.ite_pos (by omega) ih
    · have hu : uns c = [c] := if_neg h
      have e1 : IntKind.u16.wrap c = c := u16w (by omega) (by omega)
      refine Ev.succ (f := ?f2) (fun k => ?h2) ?e2
      case h2 =>
        simp only [query_units.l0]
        rw [if_pos (by simp; omega), if_pos (by omega), if_pos (by simp; omega), rd_at, if_neg h, e1, ← hu, w64 (by omega) (by omega)]
      exact Ev.ite_pos (by omega) ih
theorem units_ev (l : List UInt8) (h : l.length ≤ 100000000) : Ev (fun k => query_units.f k (B l)) (unitsL l) := by
  have h2 := uDec_length l.length l (Nat.le_refl _)
  unfold query_units.f
  refine (Ev.const (utf_Decode_f l (by omega))).bind ?_
  have := units_l0 (uDec l) [] [] (uDec_may _ l (Nat.le_refl _)) (by simp; omega) (by simp; omega)
  simpa [unitsL] using this
/-- how two lists of units stand to one another -/
def cmpU (a b : List Int) : Int := if lexLt a b then -1 else if lexLt b a then 1 else 0
theorem cmpU_lt (a b : List Int) : decide (cmpU a b < 0) = lexLt a b := by
  unfold cmpU
  by_cases h : lexLt a b = true
  · rw [if_pos h, h]; rfl
  · rw [if_neg h]
    have h : lexLt a b = false := by simpa using h
    rw [h]
    split <;> rfl
theorem lex_cons (x : Int) (a b : List Int) : lexLt (x :: a) (x :: b) = lexLt a b := by rw [lexLt, if_pos rfl]
theorem lex_head (x y : Int) (a b : List Int) (h : x ≠ y) : lexLt (x :: a) (y :: b) = decide (x < y) := by rw [lexLt, if_neg h]
theorem cmpU_cons (x : Int) (a b : List Int) : cmpU (x :: a) (x :: b) = cmpU a b := by unfold cmpU; rw [lex_cons, lex_cons]
theorem cmpU_head (x y : Int) (a b : List Int) (h : x ≠ y) : cmpU (x :: a) (y :: b) = if x < y then -1 else 1 := by
  unfold cmpU
  rw [lex_head x y a b h, lex_head y x b a (fun e => h e.symm)]
  by_cases h2 : x < y
  · rw [if_pos (decide_eq_true h2), if_pos h2]
  · rw [if_neg (by simpa using h2), if_pos (decide_eq_true (by omega)), if_neg h2]
theorem cmpC_f (x y : Int) : cmp_Compare_uint16.f x y = some (if x < y then -1 else if x > y then 1 else 0) := by
  unfold cmp_Compare_uint16.f cmp_isNaN_uint16.f
  simp only [Option.bind_some, bne_self_eq_false]
  rw [if_neg (by decide), if_neg (by decide)]
  split
  · rfl
  · split <;> rfl
theorem compare_l0 : ∀ (r s p q : List Int), p.length = q.length → p.length + r.length ≤ 1000000000 → q.length + s.length ≤ 1000000000 → Ev (fun k => slices_Compare_uint16_uint16.l0 k (p ++ r) (q ++ s) (p ++ r) ((p ++ r).length : Int) (p.length : Int)) (cmpU r s)
  | [], s, p, q, hpq, h1, h2 => by
    refine Ev.succ (f := fun _ => some (cmpU [] s)) (fun k => ?_) (Ev.now _)
    simp only [slices_Compare_uint16_uint16.l0]
    rw [if_neg (by simp)]
    cases s with
    | nil => rw [if_neg (by simp; omega)]; rfl
    | cons y s => rw [if_pos (by simp; omega)]; rfl
  | x :: r, [], p, q, hpq, h1, h2 => by
    simp only [List.length_cons] at h1
    refine Ev.succ (f := fun _ => some 1) (fun k => ?_) (by have : cmpU (x :: r) [] = 1 := rfl
                                                            rw [this]; exact Ev.now _)
    simp only [slices_Compare_uint16_uint16.l0]
    rw [if_pos (by simp; omega), if_pos (by omega), if_pos (by simp; omega), if_pos (by simp; omega)]
  | x :: r, y :: s, p, q, hpq, h1, h2 => by
    simp only [List.length_cons] at h1 h2
    have e2 : rd (q ++ y :: s) (p.length : Int) = y := rd_end q s y _ (by omega)
    by_cases e : x = y
    · subst e
      have ih := compare_l0 r s (p ++ [x]) (q ++ [x]) (by simp; omega) (by simp; omega) (by simp; omega)
      rw [show (p ++ [x]) ++ r = p ++ x :: r by simp, show (q ++ [x]) ++ s = q ++ x :: s by simp, show (((p ++ [x]).length : Nat) : Int) = (p.length : Int) + 1 by simp] at ih
      rw [cmpU_cons]
      refine Ev.succ (fun k => ?_) ih
      simp only [slices_Compare_uint16_uint16.l0]
      rw [if_pos (by simp; omega), if_pos (by omega), if_pos (by simp; omega), if_neg (by simp; omega), if_pos (by simp; omega), rd_at, e2, cmpC_f, w64 (by omega) (by omega)]
      simp
    · rw [cmpU_head x y r s e]
      refine Ev.succ (f := fun _ => some (if x < y then -1 else 1)) (fun k => ?_) (Ev.now _)
      simp only [slices_Compare_uint16_uint16.l0]
      rw [if_pos (by simp; omega), if_pos (by omega), if_pos (by simp; omega), if_neg (by simp; omega), if_pos (by simp; omega), rd_at, e2, cmpC_f]
      simp only [Option.bind_some]
      by_cases h : x < y
      · simp [h]
      · have hg : y < x := by omega
        simp [h, hg]
theorem compare_ev (a b : List Int) (h1 : a.length ≤ 1000000000) (h2 : b.length ≤ 1000000000) : Ev (fun k => slices_Compare_uint16_uint16.f k a b) (cmpU a b) := by
  unfold slices_Compare_uint16_uint16.f
  have := compare_l0 a b [] [] rfl (by simpa using h1) (by simpa using h2)
  simpa using this
end Go.Proofs.YtbcbmmlpgdndpaaDoor.Q
end
