/- A name's units of UTF-16, and how names are compared, plain. -/
import Derived.Test.YtbcbmmlpgdndpaaDoorSB9
import Derived.Test.YtbcbmmlpgdndpaaDoorSB3
import Derived.Laws.BitsLemmas
import Derived.Test.YtbcbmmlpgdndpaaDoorSQquery1
import Derived.Test.YtbcbmmlpgdndpaaDoorSQslices0
set_option linter.unusedSimpArgs false
set_option linter.unusedVariables false
namespace Go.Proofs.YtbcbmmlpgdndpaaDoor.Q
open Go.RowKit Go.Proofs.YtbcbmmlpgdndpaaDoorW.PrintWords Go.Proofs.YtbcbmmlpgdndpaaDoorW.PrintLast Go.Proofs.YtbcbmmlpgdndpaaDoorW.PrintMore Go.Proofs.YtbcbmmlpgdndpaaDoor.P1 Go.Proofs.YtbcbmmlpgdndpaaDoor.St
def uns (r : Int) : List Int := if r > 65535 then [55296 + (r - 65536) / 1024, 56320 + (r - 65536) % 1024] else [r]
/-- a text's units -/
def unitsL (l : List UInt8) : List Int := (uDec l).flatMap uns
theorem uns_len (r : Int) : (uns r).length ≤ 2 := by unfold uns; split <;> simp
theorem flat_uns_len (l : List Int) : (l.flatMap uns).length ≤ 2 * l.length := by
  induction l with
  | nil => simp
  | cons x l ih =>
    have := uns_len x
    rw [List.flatMap_cons, List.length_append, List.length_cons]; omega
theorem unitsL_len (l : List UInt8) : (unitsL l).length ≤ 2 * l.length := by
  have h1 := flat_uns_len (uDec l)
  have h2 := uDec_length l.length l (Nat.le_refl _)
  unfold unitsL; omega
theorem u16w {z : Int} (h0 : 0 ≤ z) (h1 : z < 65536) : IntKind.u16.wrap z = z := by
  have : IntKind.u16.wrap z = z % 65536 := by simp [IntKind.wrap, IntKind.signed, IntKind.bits]
  rw [this]; omega
theorem and1023 (x : Int) (h0 : 0 ≤ x) (h1 : x < 2147483648) : Go.bits .and .i32 x 1023 = x % 1024 := bits_mask .i32 31 (by decide) wraps_i32 10 (by decide) x h0 (by simpa using h1)
theorem rd_at (p r : List Int) (x : Int) : rd (p ++ x :: r) (p.length : Int) = x := rd_end p r x _ rfl
theorem units_l0 : ∀ (r p : List Int) (x : List Int), (∀ z ∈ r, mayR z) → x.length + 2 * r.length ≤ 1000000000 → p.length + r.length ≤ 1000000000 → Ev (fun k => query_units.l0 k x (p ++ r) ((p ++ r).length : Int) (p.length : Int)) (x ++ r.flatMap uns)
  | [], p, x, hr, hx, hp => by
    refine Ev.succ (f := fun _ => some x) (fun k => ?_) (by simpa using Ev.now x)
    simp only [query_units.l0]
    rw [if_neg (by simp)]
  | c :: r, p, x, hr, hx, hp => by
    simp only [List.length_cons] at hx hp
    have hc := hr c (by simp)
    have hul := uns_len c
    have ih := units_l0 r (p ++ [c]) (x ++ uns c) (fun z hz => hr z (by simp [hz])) (by simp; omega) (by simp; omega)
    rw [show (p ++ [c]) ++ r = p ++ c :: r by simp, show (((p ++ [c]).length : Nat) : Int) = (p.length : Int) + 1 by simp] at ih
    rw [List.flatMap_cons, ← List.append_assoc]
    have hc2 := hc
    unfold mayR at hc2
    by_cases h : c > 65535
    · have hu : uns c = [55296 + (c - 65536) / 1024, 56320 + (c - 65536) % 1024] := if_pos h
      have e1 : IntKind.u16.wrap (wrap32 (55296 + ((wrap32 (c - 65536)) / 1024))) = 55296 + (c - 65536) / 1024 := by
        rw [w32 (i := c - 65536) (by omega) (by omega), w32 (by omega) (by omega), u16w (by omega) (by omega)]
      have e2 : IntKind.u16.wrap (wrap32 (56320 + (Go.bits .and .i32 (wrap32 (c - 65536)) 1023))) = 56320 + (c - 65536) % 1024 := by
        rw [w32 (i := c - 65536) (by omega) (by omega), and1023 _ (by omega) (by omega), w32 (by omega) (by omega), u16w (by omega) (by omega)]
      refine Ev.succ (f := ?f) (fun k => ?h) ?e
      case h =>
        simp only [query_units.l0]
        rw [if_pos (by simp; omega), if_pos (by omega), if_pos (by simp; omega), rd_at, if_pos h, e1, e2, ← hu, w64 (by omega) (by omega)]
      simp only [Option.bind_some]
      exact Ev.ite_pos (by omega) ih
    · have hu : uns c = [c] := if_neg h
      have e1 : IntKind.u16.wrap c = c := u16w (by omega) (by omega)
      refine Ev.succ (f := ?f2) (fun k => ?h2) ?e2
      case h2 =>
        simp only [query_units.l0]
        rw [if_pos (by simp; omega), if_pos (by omega), if_pos (by simp; omega), rd_at, if_neg h, e1, ← hu, w64 (by omega) (by omega)]
      exact Ev.ite_pos (by omega) ih
theorem units_ev (l : List UInt8) (h : l.length ≤ 100000000) : Ev (fun k => query_units.f k (B l)) (unitsL l) := by
  have h2 := uDec_length l.length l (Nat.le_refl _)
  unfold query_units.f
  refine (Ev.const (utf_Decode_f l (by omega))).bind ?_
  have := units_l0 (uDec l) [] [] (uDec_may _ l (Nat.le_refl _)) (by simp; omega) (by simp; omega)
  simpa [unitsL] using this
/-- how two lists of units stand to one another -/
def cmpU (a b : List Int) : Int := if lexLt a b then -1 else if lexLt b a then 1 else 0
theorem cmpU_lt (a b : List Int) : decide (cmpU a b < 0) = lexLt a b := by
  unfold cmpU
  by_cases h : lexLt a b = true
  · rw [if_pos h, h]; rfl
  · rw [if_neg h]
    have h : lexLt a b = false := by simpa using h
    rw [h]
    split <;> rfl
theorem lex_cons (x : Int) (a b : List Int) : lexLt (x :: a) (x :: b) = lexLt a b := by rw [lexLt, if_pos rfl]
theorem lex_head (x y : Int) (a b : List Int) (h : x ≠ y) : lexLt (x :: a) (y :: b) = decide (x < y) := by rw [lexLt, if_neg h]
theorem cmpU_cons (x : Int) (a b : List Int) : cmpU (x :: a) (x :: b) = cmpU a b := by unfold cmpU; rw [lex_cons, lex_cons]
theorem cmpU_head (x y : Int) (a b : List Int) (h : x ≠ y) : cmpU (x :: a) (y :: b) = if x < y then -1 else 1 := by
  unfold cmpU
  rw [lex_head x y a b h, lex_head y x b a (fun e => h e.symm)]
  by_cases h2 : x < y
  · rw [if_pos (decide_eq_true h2), if_pos h2]
  · rw [if_neg (by simpa using h2), if_pos (decide_eq_true (by omega)), if_neg h2]
theorem cmpC_f (x y : Int) : cmp_Compare_uint16.f x y = some (if x < y then -1 else if x > y then 1 else 0) := by
  unfold cmp_Compare_uint16.f cmp_isNaN_uint16.f
  simp only [Option.bind_some, bne_self_eq_false]
  rw [if_neg (by decide), if_neg (by decide)]
  split
  · rfl
  · split <;> rfl
theorem compare_l0 : ∀ (r s p q : List Int), p.length = q.length → p.length + r.length ≤ 1000000000 → q.length + s.length ≤ 1000000000 → Ev (fun k => slices_Compare_uint16_uint16.l0 k (p ++ r) (q ++ s) (p ++ r) ((p ++ r).length : Int) (p.length : Int)) (cmpU r s)
  | [], s, p, q, hpq, h1, h2 => by
    refine Ev.succ (f := fun _ => some (cmpU [] s)) (fun k => ?_) (Ev.now _)
    simp only [slices_Compare_uint16_uint16.l0]
    rw [if_neg (by simp)]
    cases s with
    | nil => rw [if_neg (by simp; omega)]; rfl
    | cons y s => rw [if_pos (by simp; omega)]; rfl
  | x :: r, [], p, q, hpq, h1, h2 => by
    simp only [List.length_cons] at h1
    refine Ev.succ (f := fun _ => some 1) (fun k => ?_) (by have : cmpU (x :: r) [] = 1 := rfl
                                                            rw [this]; exact Ev.now _)
    simp only [slices_Compare_uint16_uint16.l0]
    rw [if_pos (by simp; omega), if_pos (by omega), if_pos (by simp; omega), if_pos (by simp; omega)]
  | x :: r, y :: s, p, q, hpq, h1, h2 => by
    simp only [List.length_cons] at h1 h2
    have e2 : rd (q ++ y :: s) (p.length : Int) = y := rd_end q s y _ (by omega)
    by_cases e : x = y
    · subst e
      have ih := compare_l0 r s (p ++ [x]) (q ++ [x]) (by simp; omega) (by simp; omega) (by simp; omega)
      rw [show (p ++ [x]) ++ r = p ++ x :: r by simp, show (q ++ [x]) ++ s = q ++ x :: s by simp, show (((p ++ [x]).length : Nat) : Int) = (p.length : Int) + 1 by simp] at ih
      rw [cmpU_cons]
      refine Ev.succ (fun k => ?_) ih
      simp only [slices_Compare_uint16_uint16.l0]
      rw [if_pos (by simp; omega), if_pos (by omega), if_pos (by simp; omega), if_neg (by simp; omega), if_pos (by simp; omega), rd_at, e2, cmpC_f, w64 (by omega) (by omega)]
      simp
    · rw [cmpU_head x y r s e]
      refine Ev.succ (f := fun _ => some (if x < y then -1 else 1)) (fun k => ?_) (Ev.now _)
      simp only [slices_Compare_uint16_uint16.l0]
      rw [if_pos (by simp; omega), if_pos (by omega), if_pos (by simp; omega), if_neg (by simp; omega), if_pos (by simp; omega), rd_at, e2, cmpC_f]
      simp only [Option.bind_some]
      by_cases h : x < y
      · simp [h]
      · have hg : y < x := by omega
        simp [h, hg]
theorem compare_ev (a b : List Int) (h1 : a.length ≤ 1000000000) (h2 : b.length ≤ 1000000000) : Ev (fun k => slices_Compare_uint16_uint16.f k a b) (cmpU a b) := by
  unfold slices_Compare_uint16_uint16.f
  have := compare_l0 a b [] [] rfl (by simpa using h1) (by simpa using h2)
  simpa using this
end Go.Proofs.YtbcbmmlpgdndpaaDoor.Q
