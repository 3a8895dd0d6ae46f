/- tables.spans[bastion/api.Joins]: the list's entries, each behind its two ends. Written by nspangen.py. -/
import Derived.Test.YtmjnipifpeehgaaDoorSNSpClass
import Derived.Laws.MakeOwn
set_option linter.unusedSimpArgs false
set_option linter.unusedVariables false
namespace Go.Proofs.YtmjnipifpeehgaaDoor.Q
open Go.RowKit Go.Proofs.YtmjnipifpeehgaaDoorW.PrintWords Go.Proofs.YtmjnipifpeehgaaDoorW.PrintLast Go.Proofs.YtmjnipifpeehgaaDoorW.PrintMore
/-- block g holds the entries l, each behind its two ends, in a room of n -/
def SpJoins (g : Nat) (W : World) (l : List S91) (n : Nat) : Prop :=
  ∃ cur, W.heap[g]? = some (.cells cur 126 (0, 0)) ∧ cur.size = n * 5 ∧ l.length ≤ n ∧ ∀ (j : Nat) x, l[j]? = some x → cur[j * 5]? = some (.int .i32 x.f0) ∧ cur[j * 5 + 1]? = some (.int .i32 x.f1) ∧ cur[j * 5 + 2]? = some (.int .i32 x.f0) ∧ cur[j * 5 + 3]? = some (.int .i32 x.f1) ∧ cur[j * 5 + 4]? = some (.int .u8 x.f2)
theorem SpJoins.below {g n : Nat} {W W' : World} {l : List S91} (h : SpJoins g W l n) (hb : Below W.heap.size W W') : SpJoins g W' l n := by
  obtain ⟨cur, h1, h2⟩ := h
  exact ⟨cur, (hb.block g (Array.getElem?_eq_some_iff.1 h1).1).trans h1, h2⟩
theorem SpJoins.cell {g n : Nat} {W : World} {l : List S91} (h : SpJoins g W l n) (kk i : Nat) (hk : kk < n) (hi : i < 5) : ∃ u, W.cell? ⟨g, kk * 5 + i, none⟩ = some u := by
  obtain ⟨cur, h1, h2, _⟩ := h
  rw [Lib.cell_of_heap h1]
  exact ⟨_, Array.getElem?_eq_getElem (by omega)⟩
theorem SpJoins.frozen {g n : Nat} {W : World} {l : List S91} (h : SpJoins g W l n) (j : Nat) : W.frozen? ⟨g, j, none⟩ = false := by
  obtain ⟨cur, h1, _⟩ := h
  exact Lib.frozen_of_heap h1 j
theorem SpJoins.store {g n kk : Nat} {W : World} {l : List S91} (h : SpJoins g W l n) (x : S91) (hl : l.length = kk) (hk : kk < n) : SpJoins g (((((W.setCell ⟨g, kk * 5, none⟩ (.int .i32 x.f0)).setCell ⟨g, kk * 5 + 1, none⟩ (.int .i32 x.f1)).setCell ⟨g, kk * 5 + 2, none⟩ (.int .i32 x.f0)).setCell ⟨g, kk * 5 + 3, none⟩ (.int .i32 x.f1)).setCell ⟨g, kk * 5 + 4, none⟩ (.int .u8 x.f2)) (l ++ [x]) n := by
  obtain ⟨cur, h1, h2, h3, h4⟩ := h
  refine ⟨(((((cur.setIfInBounds (kk * 5) (.int .i32 x.f0)).setIfInBounds (kk * 5 + 1) (.int .i32 x.f1)).setIfInBounds (kk * 5 + 2) (.int .i32 x.f0)).setIfInBounds (kk * 5 + 3) (.int .i32 x.f1)).setIfInBounds (kk * 5 + 4) (.int .u8 x.f2)), (heapSetS (j := kk * 5 + 4) (.int .u8 x.f2) (heapSetS (j := kk * 5 + 3) (.int .i32 x.f1) (heapSetS (j := kk * 5 + 2) (.int .i32 x.f0) (heapSetS (j := kk * 5 + 1) (.int .i32 x.f1) (heapSetS (j := kk * 5) (.int .i32 x.f0) h1))))), by simp only [Array.size_setIfInBounds]; exact h2, by rw [List.length_append]; show l.length + 1 ≤ n; omega, fun j y hy => ?_⟩
  rcases Nat.lt_or_ge j kk with hj | hj
  · rw [List.getElem?_append_left (by omega)] at hy
    (have h5 := h4 j y hy); (simp (disch := omega) only [Array.getElem?_setIfInBounds_ne]); (exact h5)
  · have hjl := (List.getElem?_eq_some_iff.1 hy).1
    (rw [List.length_append] at hjl); (obtain rfl : j = kk := by simp at hjl; omega); (rw [List.getElem?_append_right (by omega), hl, Nat.sub_self] at hy); (obtain rfl : x = y := by simpa using hy); (refine ⟨by rw [Array.getElem?_setIfInBounds_ne (by omega), Array.getElem?_setIfInBounds_ne (by omega), Array.getElem?_setIfInBounds_ne (by omega), Array.getElem?_setIfInBounds_ne (by omega), Array.getElem?_setIfInBounds_self_of_lt (by (try simp only [Array.size_setIfInBounds]); omega)], by rw [Array.getElem?_setIfInBounds_ne (by omega), Array.getElem?_setIfInBounds_ne (by omega), Array.getElem?_setIfInBounds_ne (by omega), Array.getElem?_setIfInBounds_self_of_lt (by (try simp only [Array.size_setIfInBounds]); omega)], by rw [Array.getElem?_setIfInBounds_ne (by omega), Array.getElem?_setIfInBounds_ne (by omega), Array.getElem?_setIfInBounds_self_of_lt (by (try simp only [Array.size_setIfInBounds]); omega)], by rw [Array.getElem?_setIfInBounds_ne (by omega), Array.getElem?_setIfInBounds_self_of_lt (by (try simp only [Array.size_setIfInBounds]); omega)], by rw [Array.getElem?_setIfInBounds_self_of_lt (by (try simp only [Array.size_setIfInBounds]); omega)]⟩)
theorem rdSJoins (l : List S91) (j : Nat) (hj : j < l.length) : rd_T91 l (j : Int) = l[j]'hj := by simp [rd_T91, List.getD_eq_getElem?_getD, hj]
set_option maxHeartbeats 4000000 in
theorem spanJoins_calls (A : Option Addr) (c : Nat) (l : List S91) (w : World) (hn : l.length ≤ 1048576) (hC : Kd.C k91 w A l.length l) :
    Calls Tryd.prog 77 #[.slice A l.length c, .func (.func 55) #[] #[]] w fun e w' => e = .returned (.slice (some ⟨w.heap.size, 0, none⟩) l.length l.length) ∧ SpJoins w.heap.size w' l l.length ∧ Below w.heap.size w w' := by
  obtain ⟨i0, hi, hzz⟩ := Option.map_eq_some_iff.1 (show (Tryd.prog.info? 126).map (fun i => (i.zero, i.size)) = some (some (.agg #[.int .i32 0, .int .i32 0, .int .i32 0, .int .i32 0, .int .u8 0]), 5) from by kernel_rfl)
  simp only [Prod.mk.injEq] at hzz
  have hby : (i0.bytes : Int) ≤ 1024 := by
    have : (Tryd.prog.info? 126).all (fun i => decide (i.bytes ≤ 1024)) = true := by kernel_rfl
    (rw [hi] at this); (have := of_decide_eq_true this); (omega)
  have eo : ∀ args w, (callFunc 55 args).run Tryd.prog w = .ok (.enter 55 args) w := enters_of Tryd.func55 (by kernel_rfl) rfl
  have HC := Lib.hid hC
  clear hC
  generalize hnl : l.length = n at *
  have hmul : (i0.bytes : Int) * (n : Int) ≤ 281474976710656 := by
    (have h0 : (0 : Int) ≤ (n : Int) := by omega); (have h1 : (i0.bytes : Int) * (n : Int) ≤ 1024 * (n : Int) := Int.mul_le_mul_of_nonneg_right hby h0); (omega)
  have hmk := run_make (P := Tryd.prog) w 123 126 i0 _ (by kernel_rfl) hi hzz.1 .i64 .i64 (n : Int) (n : Int) (by omega) (Int.le_refl _) hmul (by omega)
  rw [hzz.2, Int.toNat_natCast] at hmk
  have hS0 : SpJoins w.heap.size (w.alloc (.cells (madeCells #[.int .i32 0, .int .i32 0, .int .i32 0, .int .i32 0, .int .u8 0] (n * 5)) 126)) [] n := ⟨_, heapNewS _ _, by rw [size_madeCells], Nat.zero_le _, fun j x hj => by cases hj⟩
  have HS0 := Lib.hid hS0
  have HB0 := Lib.hid (show Below w.heap.size w (w.alloc (.cells (madeCells #[.int .i32 0, .int .i32 0, .int .i32 0, .int .i32 0, .int .u8 0] (n * 5)) 126)) from (Below.refl _ w).alloc (Nat.le_refl _) _)
  clear hS0 hzz hi hby hmul
  go_enter Tryd.func77, Tryd.ntmps77
  go_wp2_with fail
  generalize (w.alloc (.cells (madeCells #[.int .i32 0, .int .i32 0, .int .i32 0, .int .i32 0, .int .u8 0] (n * 5)) 126)) = w1 at *
  go_wp2
  go_loopg [15] n (fun gg s15 wr => ∃ kk : Nat, kk ≤ n ∧ n - kk ≤ gg ∧ s15 = .int .i64 kk ∧ Hid (Below w.heap.size w wr) ∧ Hid (SpJoins w.heap.size wr (l.take kk) n))
  case atStart => exact ⟨0, Nat.zero_le _, by omega, rfl, HB0, HS0⟩
  case round =>
    obtain ⟨kk, hkk, hg, rfl, BW, HS⟩ := hrel
    by_cases hlt : kk < n
    · have hltz : (kk : Int) < (n : Int) := by omega
      (obtain ⟨ad, rfl, k0, k1, k2⟩ := at_T91 (Kd.C_below HC.out BW.out) (kk : Int) (by omega) (by omega)); (rw [Int.toNat_natCast, rdSJoins l kk (by omega)] at k0 k1 k2); (have HX := Lib.hid (show l[kk]? = some (l[kk]'(by omega)) from List.getElem?_eq_getElem _)); (generalize l[kk]'(by omega) = x at k0 k1 k2 HX)
      have hof := fun W1 => tables_ofJoins.calls x.f0 x.f1 x.f2 x.f0 x.f1 W1 rfl
      (go_wp2_with fail); (refine (hof _).mono ?_); (rintro e w2 ⟨rfl, hb2⟩); (have hbx : w2.heap[wr.heap.size]? = some (.cells #[.int .i32 x.f0, .int .i32 x.f1, .int .u8 x.f2] 91 (0, 0)) := (hb2.block _ (by simp)).trans (heapNewS _ _)); (have hx0 : w2.cell? ⟨wr.heap.size, 0, none⟩ = some (.int .i32 x.f0) := (Lib.cell_of_heap hbx 0).trans rfl); (have hx1 : w2.cell? ⟨wr.heap.size, 1, none⟩ = some (.int .i32 x.f1) := (Lib.cell_of_heap hbx 1).trans rfl); (have hx2 : w2.cell? ⟨wr.heap.size, 2, none⟩ = some (.int .u8 x.f2) := (Lib.cell_of_heap hbx 2).trans rfl); (have hB2 : Below w.heap.size w w2 := (BW.out.alloc BW.out.size _).trans (hb2.mono (Nat.le_trans BW.out.size (by simp)))); (have hS2 := HS.out.below ((Below.refl wr.heap.size wr).alloc (Nat.le_refl _) (.cells #[.int .i32 x.f0, .int .i32 x.f1, .int .u8 x.f2] 91) |>.trans (hb2.mono (by simp)))); (obtain ⟨u100, hu0⟩ : ∃ u, w2.cell? ⟨w.heap.size, kk * 5, none⟩ = some u := hS2.cell kk 0 hlt (by omega)); (obtain ⟨u101, hu1⟩ : ∃ u, w2.cell? ⟨w.heap.size, kk * 5 + 1, none⟩ = some u := hS2.cell kk 1 hlt (by omega)); (obtain ⟨u102, hu2⟩ : ∃ u, w2.cell? ⟨w.heap.size, kk * 5 + 2, none⟩ = some u := hS2.cell kk 2 hlt (by omega)); (obtain ⟨u103, hu3⟩ : ∃ u, w2.cell? ⟨w.heap.size, kk * 5 + 3, none⟩ = some u := hS2.cell kk 3 hlt (by omega)); (obtain ⟨u104, hu4⟩ : ∃ u, w2.cell? ⟨w.heap.size, kk * 5 + 4, none⟩ = some u := hS2.cell kk 4 hlt (by omega)); (have hf0 := hS2.frozen (kk * 5)); (have hf1 := hS2.frozen (kk * 5 + 1)); (have hf2 := hS2.frozen (kk * 5 + 2)); (have hf3 := hS2.frozen (kk * 5 + 3)); (have hf4 := hS2.frozen (kk * 5 + 4)); (have HS2 := Lib.hid hS2); (have HB2 := Lib.hid hB2); (have HX3 := Lib.hid (trivial)); (clear hB2 hS2 hbx hb2 HS BW hof k0 k1 k2 hmk); (go_wp2); (go_roundg (n - (kk + 1)))
      case measure => omega
      case rel =>
        refine ⟨kk + 1, by omega, by omega, by go_num, Lib.hid ?_, Lib.hid ?_⟩
        · exact (Below.setCell (p := ⟨w.heap.size, kk * 5 + 4, none⟩) (Below.setCell (p := ⟨w.heap.size, kk * 5 + 3, none⟩) (Below.setCell (p := ⟨w.heap.size, kk * 5 + 2, none⟩) (Below.setCell (p := ⟨w.heap.size, kk * 5 + 1, none⟩) (Below.setCell (p := ⟨w.heap.size, kk * 5, none⟩) HB2.out (Nat.le_refl _) (.int .i32 x.f0)) (Nat.le_refl _) (.int .i32 x.f1)) (Nat.le_refl _) (.int .i32 x.f0)) (Nat.le_refl _) (.int .i32 x.f1)) (Nat.le_refl _) (.int .u8 x.f2))
        · rw [List.take_add_one, HX.out]
          exact HS2.out.store x  (by rw [List.length_take]; omega) hlt
    · have hltz : ¬ (kk : Int) < (n : Int) := by omega
      (obtain rfl : kk = n := by omega); (go_wp2); (go_ret); (exact ⟨rfl, by have := HS.out; rw [List.take_of_length_le (by omega)] at this; exact this, BW.out⟩)
end Go.Proofs.YtmjnipifpeehgaaDoor.Q
