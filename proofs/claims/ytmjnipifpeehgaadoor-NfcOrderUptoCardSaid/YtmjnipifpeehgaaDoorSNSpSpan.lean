/- tables.spans[bastion/api.Span]: the list's entries, each behind its two ends. Written by nspangen.py. -/
import Derived.Test.YtmjnipifpeehgaaDoorSNSpClass
import Derived.Laws.MakeOwn
set_option linter.unusedSimpArgs false
set_option linter.unusedVariables false
namespace Go.Proofs.YtmjnipifpeehgaaDoor.Q
open Go.RowKit Go.Proofs.YtmjnipifpeehgaaDoorW.PrintWords Go.Proofs.YtmjnipifpeehgaaDoorW.PrintLast Go.Proofs.YtmjnipifpeehgaaDoorW.PrintMore
/-- block g holds the entries l, each behind its two ends, in a room of n -/
def SpSpan (w0 : World) (g : Nat) (W : World) (l : List S71) (n : Nat) : Prop :=
  ∃ cur, W.heap[g]? = some (.cells cur 108 (0, 0)) ∧ cur.size = n * 6 ∧ l.length ≤ n ∧ ∀ (j : Nat) x, l[j]? = some x → ∃ (A3 : Option Addr) (c3 : Nat), cur[j * 6]? = some (.int .i32 x.f0) ∧ cur[j * 6 + 1]? = some (.int .i32 x.f1) ∧ cur[j * 6 + 2]? = some (.int .i32 x.f0) ∧ cur[j * 6 + 3]? = some (.int .i32 x.f1) ∧ cur[j * 6 + 4]? = some (.int .u8 x.f2) ∧ cur[j * 6 + 5]? = some (.slice A3 x.f3.length c3) ∧ x.f3.length ≤ c3 ∧ Kd.C (Kd.int .i32) w0 A3 x.f3.length x.f3
theorem SpSpan.below {w0 : World} {g n : Nat} {W W' : World} {l : List S71} (h : SpSpan w0 g W l n) (hb : Below W.heap.size W W') : SpSpan w0 g W' l n := by
  obtain ⟨cur, h1, h2⟩ := h
  exact ⟨cur, (hb.block g (Array.getElem?_eq_some_iff.1 h1).1).trans h1, h2⟩
theorem SpSpan.cell {w0 : World} {g n : Nat} {W : World} {l : List S71} (h : SpSpan w0 g W l n) (kk i : Nat) (hk : kk < n) (hi : i < 6) : ∃ u, W.cell? ⟨g, kk * 6 + i, none⟩ = some u := by
  obtain ⟨cur, h1, h2, _⟩ := h
  rw [Lib.cell_of_heap h1]
  exact ⟨_, Array.getElem?_eq_getElem (by omega)⟩
theorem SpSpan.frozen {w0 : World} {g n : Nat} {W : World} {l : List S71} (h : SpSpan w0 g W l n) (j : Nat) : W.frozen? ⟨g, j, none⟩ = false := by
  obtain ⟨cur, h1, _⟩ := h
  exact Lib.frozen_of_heap h1 j
theorem SpSpan.store {w0 : World} {g n kk : Nat} {W : World} {l : List S71} (h : SpSpan w0 g W l n) (x : S71) (A3 : Option Addr) (c3 : Nat) (hx3 : x.f3.length ≤ c3) (hxC : Kd.C (Kd.int .i32) w0 A3 x.f3.length x.f3) (hl : l.length = kk) (hk : kk < n) : SpSpan w0 g ((((((W.setCell ⟨g, kk * 6, none⟩ (.int .i32 x.f0)).setCell ⟨g, kk * 6 + 1, none⟩ (.int .i32 x.f1)).setCell ⟨g, kk * 6 + 2, none⟩ (.int .i32 x.f0)).setCell ⟨g, kk * 6 + 3, none⟩ (.int .i32 x.f1)).setCell ⟨g, kk * 6 + 4, none⟩ (.int .u8 x.f2)).setCell ⟨g, kk * 6 + 5, none⟩ (.slice A3 x.f3.length c3)) (l ++ [x]) n := by
  obtain ⟨cur, h1, h2, h3, h4⟩ := h
  refine ⟨((((((cur.setIfInBounds (kk * 6) (.int .i32 x.f0)).setIfInBounds (kk * 6 + 1) (.int .i32 x.f1)).setIfInBounds (kk * 6 + 2) (.int .i32 x.f0)).setIfInBounds (kk * 6 + 3) (.int .i32 x.f1)).setIfInBounds (kk * 6 + 4) (.int .u8 x.f2)).setIfInBounds (kk * 6 + 5) (.slice A3 x.f3.length c3)), (heapSetS (j := kk * 6 + 5) (.slice A3 x.f3.length c3) (heapSetS (j := kk * 6 + 4) (.int .u8 x.f2) (heapSetS (j := kk * 6 + 3) (.int .i32 x.f1) (heapSetS (j := kk * 6 + 2) (.int .i32 x.f0) (heapSetS (j := kk * 6 + 1) (.int .i32 x.f1) (heapSetS (j := kk * 6) (.int .i32 x.f0) h1)))))), by simp only [Array.size_setIfInBounds]; exact h2, by rw [List.length_append]; show l.length + 1 ≤ n; omega, fun j y hy => ?_⟩
  rcases Nat.lt_or_ge j kk with hj | hj
  · rw [List.getElem?_append_left (by omega)] at hy
    (have h5 := h4 j y hy); (simp (disch := omega) only [Array.getElem?_setIfInBounds_ne]); (exact h5)
  · have hjl := (List.getElem?_eq_some_iff.1 hy).1
    (rw [List.length_append] at hjl); (obtain rfl : j = kk := by simp at hjl; omega); (rw [List.getElem?_append_right (by omega), hl, Nat.sub_self] at hy); (obtain rfl : x = y := by simpa using hy); (refine ⟨A3, c3, by rw [Array.getElem?_setIfInBounds_ne (by omega), Array.getElem?_setIfInBounds_ne (by omega), Array.getElem?_setIfInBounds_ne (by omega), Array.getElem?_setIfInBounds_ne (by omega), Array.getElem?_setIfInBounds_ne (by omega), Array.getElem?_setIfInBounds_self_of_lt (by (try simp only [Array.size_setIfInBounds]); omega)], by rw [Array.getElem?_setIfInBounds_ne (by omega), Array.getElem?_setIfInBounds_ne (by omega), Array.getElem?_setIfInBounds_ne (by omega), Array.getElem?_setIfInBounds_ne (by omega), Array.getElem?_setIfInBounds_self_of_lt (by (try simp only [Array.size_setIfInBounds]); omega)], by rw [Array.getElem?_setIfInBounds_ne (by omega), Array.getElem?_setIfInBounds_ne (by omega), Array.getElem?_setIfInBounds_ne (by omega), Array.getElem?_setIfInBounds_self_of_lt (by (try simp only [Array.size_setIfInBounds]); omega)], by rw [Array.getElem?_setIfInBounds_ne (by omega), Array.getElem?_setIfInBounds_ne (by omega), Array.getElem?_setIfInBounds_self_of_lt (by (try simp only [Array.size_setIfInBounds]); omega)], by rw [Array.getElem?_setIfInBounds_ne (by omega), Array.getElem?_setIfInBounds_self_of_lt (by (try simp only [Array.size_setIfInBounds]); omega)], by rw [Array.getElem?_setIfInBounds_self_of_lt (by (try simp only [Array.size_setIfInBounds]); omega)], hx3, hxC⟩)
theorem rdSSpan (l : List S71) (j : Nat) (hj : j < l.length) : rd_T71 l (j : Int) = l[j]'hj := by simp [rd_T71, List.getD_eq_getElem?_getD, hj]
set_option maxHeartbeats 4000000 in
theorem spanSpan_calls (A : Option Addr) (c : Nat) (l : List S71) (w : World) (hn : l.length ≤ 1048576) (hC : Kd.C k71 w A l.length l) :
    Calls Tryd.prog 71 #[.slice A l.length c, .func (.func 41) #[] #[]] w fun e w' => e = .returned (.slice (some ⟨w.heap.size, 0, none⟩) l.length l.length) ∧ SpSpan w w.heap.size w' l l.length ∧ Below w.heap.size w w' := by
  obtain ⟨i0, hi, hzz⟩ := Option.map_eq_some_iff.1 (show (Tryd.prog.info? 108).map (fun i => (i.zero, i.size)) = some (some (.agg #[.int .i32 0, .int .i32 0, .int .i32 0, .int .i32 0, .int .u8 0, .slice none 0 0]), 6) from by kernel_rfl)
  simp only [Prod.mk.injEq] at hzz
  have hby : (i0.bytes : Int) ≤ 1024 := by
    have : (Tryd.prog.info? 108).all (fun i => decide (i.bytes ≤ 1024)) = true := by kernel_rfl
    (rw [hi] at this); (have := of_decide_eq_true this); (omega)
  have eo : ∀ args w, (callFunc 41 args).run Tryd.prog w = .ok (.enter 41 args) w := enters_of Tryd.func41 (by kernel_rfl) rfl
  have HC := Lib.hid hC
  clear hC
  generalize hnl : l.length = n at *
  have hmul : (i0.bytes : Int) * (n : Int) ≤ 281474976710656 := by
    (have h0 : (0 : Int) ≤ (n : Int) := by omega); (have h1 : (i0.bytes : Int) * (n : Int) ≤ 1024 * (n : Int) := Int.mul_le_mul_of_nonneg_right hby h0); (omega)
  have hmk := run_make (P := Tryd.prog) w 105 108 i0 _ (by kernel_rfl) hi hzz.1 .i64 .i64 (n : Int) (n : Int) (by omega) (Int.le_refl _) hmul (by omega)
  rw [hzz.2, Int.toNat_natCast] at hmk
  have hS0 : SpSpan w w.heap.size (w.alloc (.cells (madeCells #[.int .i32 0, .int .i32 0, .int .i32 0, .int .i32 0, .int .u8 0, .slice none 0 0] (n * 6)) 108)) [] n := ⟨_, heapNewS _ _, by rw [size_madeCells], Nat.zero_le _, fun j x hj => by cases hj⟩
  have HS0 := Lib.hid hS0
  have HB0 := Lib.hid (show Below w.heap.size w (w.alloc (.cells (madeCells #[.int .i32 0, .int .i32 0, .int .i32 0, .int .i32 0, .int .u8 0, .slice none 0 0] (n * 6)) 108)) from (Below.refl _ w).alloc (Nat.le_refl _) _)
  clear hS0 hzz hi hby hmul
  go_enter Tryd.func71, Tryd.ntmps71
  go_wp2_with fail
  generalize (w.alloc (.cells (madeCells #[.int .i32 0, .int .i32 0, .int .i32 0, .int .i32 0, .int .u8 0, .slice none 0 0] (n * 6)) 108)) = w1 at *
  go_wp2
  go_loopg [15] n (fun gg s15 wr => ∃ kk : Nat, kk ≤ n ∧ n - kk ≤ gg ∧ s15 = .int .i64 kk ∧ Hid (Below w.heap.size w wr) ∧ Hid (SpSpan w w.heap.size wr (l.take kk) n))
  case atStart => exact ⟨0, Nat.zero_le _, by omega, rfl, HB0, HS0⟩
  case round =>
    obtain ⟨kk, hkk, hg, rfl, BW, HS⟩ := hrel
    by_cases hlt : kk < n
    · have hltz : (kk : Int) < (n : Int) := by omega
      (obtain ⟨ad, A3, c3, rfl, k0, k1, k2, k3, k4, k5⟩ := at_T71 HC.out (kk : Int) (by omega) (by omega)); (rw [Int.toNat_natCast] at k0 k1 k2 k3); (rw [rdSSpan l kk (by omega)] at k0 k1 k2 k3 k4 k5); (have HX := Lib.hid (show l[kk]? = some (l[kk]'(by omega)) from List.getElem?_eq_getElem _)); (generalize l[kk]'(by omega) = x at k0 k1 k2 k3 k4 k5 HX); (replace k0 := (BW.out.cell (World.block_lt_of_cell? _ _ k0)).trans k0); (replace k1 := (BW.out.cell (World.block_lt_of_cell? _ _ k1)).trans k1); (replace k2 := (BW.out.cell (World.block_lt_of_cell? _ _ k2)).trans k2); (replace k3 := (BW.out.cell (World.block_lt_of_cell? _ _ k3)).trans k3)
      have hof := fun W1 (hW1 : Below w.heap.size w W1) => tables_ofSpan.calls x.f0 x.f1 x.f2 A3 c3 x.f3 x.f0 x.f1 W1 (Kd.C_below k5 hW1) k4 rfl
      (go_wp2_with fail); (refine (hof _ (BW.out.alloc BW.out.size _)).mono ?_); (rintro e w2 ⟨rfl, hb2⟩); (have hbx : w2.heap[wr.heap.size]? = some (.cells #[.int .i32 x.f0, .int .i32 x.f1, .int .u8 x.f2, .slice A3 x.f3.length c3] 71 (0, 0)) := (hb2.block _ (by simp)).trans (heapNewS _ _)); (have hx0 : w2.cell? ⟨wr.heap.size, 0, none⟩ = some (.int .i32 x.f0) := (Lib.cell_of_heap hbx 0).trans rfl); (have hx1 : w2.cell? ⟨wr.heap.size, 1, none⟩ = some (.int .i32 x.f1) := (Lib.cell_of_heap hbx 1).trans rfl); (have hx2 : w2.cell? ⟨wr.heap.size, 2, none⟩ = some (.int .u8 x.f2) := (Lib.cell_of_heap hbx 2).trans rfl); (have hx3 : w2.cell? ⟨wr.heap.size, 3, none⟩ = some (.slice A3 x.f3.length c3) := (Lib.cell_of_heap hbx 3).trans rfl); (have hB2 : Below w.heap.size w w2 := (BW.out.alloc BW.out.size _).trans (hb2.mono (Nat.le_trans BW.out.size (by simp)))); (have hS2 := HS.out.below ((Below.refl wr.heap.size wr).alloc (Nat.le_refl _) (.cells #[.int .i32 x.f0, .int .i32 x.f1, .int .u8 x.f2, .slice A3 x.f3.length c3] 71) |>.trans (hb2.mono (by simp)))); (obtain ⟨u100, hu0⟩ : ∃ u, w2.cell? ⟨w.heap.size, kk * 6, none⟩ = some u := hS2.cell kk 0 hlt (by omega)); (obtain ⟨u101, hu1⟩ : ∃ u, w2.cell? ⟨w.heap.size, kk * 6 + 1, none⟩ = some u := hS2.cell kk 1 hlt (by omega)); (obtain ⟨u102, hu2⟩ : ∃ u, w2.cell? ⟨w.heap.size, kk * 6 + 2, none⟩ = some u := hS2.cell kk 2 hlt (by omega)); (obtain ⟨u103, hu3⟩ : ∃ u, w2.cell? ⟨w.heap.size, kk * 6 + 3, none⟩ = some u := hS2.cell kk 3 hlt (by omega)); (obtain ⟨u104, hu4⟩ : ∃ u, w2.cell? ⟨w.heap.size, kk * 6 + 4, none⟩ = some u := hS2.cell kk 4 hlt (by omega)); (obtain ⟨u105, hu5⟩ : ∃ u, w2.cell? ⟨w.heap.size, kk * 6 + 5, none⟩ = some u := hS2.cell kk 5 hlt (by omega)); (have hf0 := hS2.frozen (kk * 6)); (have hf1 := hS2.frozen (kk * 6 + 1))
      (have hf2 := hS2.frozen (kk * 6 + 2)); (have hf3 := hS2.frozen (kk * 6 + 3)); (have hf4 := hS2.frozen (kk * 6 + 4)); (have hf5 := hS2.frozen (kk * 6 + 5)); (have HS2 := Lib.hid hS2); (have HB2 := Lib.hid hB2); (have HX3 := Lib.hid (And.intro k4 k5)); (clear hB2 hS2 hbx hb2 HS BW hof k0 k1 k2 k3 hmk k4 k5); (go_wp2); (go_roundg (n - (kk + 1)))
      case measure => omega
      case rel =>
        refine ⟨kk + 1, by omega, by omega, by go_num, Lib.hid ?_, Lib.hid ?_⟩
        · exact (Below.setCell (p := ⟨w.heap.size, kk * 6 + 5, none⟩) (Below.setCell (p := ⟨w.heap.size, kk * 6 + 4, none⟩) (Below.setCell (p := ⟨w.heap.size, kk * 6 + 3, none⟩) (Below.setCell (p := ⟨w.heap.size, kk * 6 + 2, none⟩) (Below.setCell (p := ⟨w.heap.size, kk * 6 + 1, none⟩) (Below.setCell (p := ⟨w.heap.size, kk * 6, none⟩) HB2.out (Nat.le_refl _) (.int .i32 x.f0)) (Nat.le_refl _) (.int .i32 x.f1)) (Nat.le_refl _) (.int .i32 x.f0)) (Nat.le_refl _) (.int .i32 x.f1)) (Nat.le_refl _) (.int .u8 x.f2)) (Nat.le_refl _) (.slice A3 x.f3.length c3))
        · rw [List.take_add_one, HX.out]
          exact HS2.out.store x A3 c3 HX3.out.1 HX3.out.2 (by rw [List.length_take]; omega) hlt
    · have hltz : ¬ (kk : Int) < (n : Int) := by omega
      (obtain rfl : kk = n := by omega); (go_wp2); (go_ret); (exact ⟨rfl, by have := HS.out; rw [List.take_of_length_le (by omega)] at this; exact this, BW.out⟩)
end Go.Proofs.YtmjnipifpeehgaaDoor.Q
