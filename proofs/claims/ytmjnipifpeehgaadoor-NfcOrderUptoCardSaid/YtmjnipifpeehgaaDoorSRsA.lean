/- The stable sort of runes in a stretch of a block, walked: exchanges, turning about. (Written by runesortgen.py off XSrtA.) -/
import Derived.Test.YtmjnipifpeehgaaDoorSQbase
import Derived.Test.YtmjnipifpeehgaaDoorSStab
import Derived.WalkKit
import Derived.Deep.LoopGhost
import Derived.Lib.Hide
import Derived.Lib.Builder
import Derived.Shelf.SlicesQ.Load
set_option linter.unusedSimpArgs false
set_option linter.unusedVariables false
namespace Go.Proofs.YtmjnipifpeehgaaDoor.Q.I
open Go.RowKit Go.Proofs.YtmjnipifpeehgaaDoorW.PrintWords Go.Proofs.YtmjnipifpeehgaaDoorW.PrintLast Go.Proofs.YtmjnipifpeehgaaDoorW.PrintMore Go.Sort Go.Proofs.YtmjnipifpeehgaaDoor.St Go.Proofs.YtmjnipifpeehgaaDoor.Q
/-- the runes of a block from o on; the other cells are as they were -/
structure RowA (g o : Nat) (qz : Array Value) (W : World) (d : Array Int) : Prop where
  row : ∃ cur, W.heap[g]? = some (.cells cur 21 (0, 0)) ∧ cur.size = qz.size ∧ o + d.size ≤ cur.size ∧ (∀ (j : Nat) x, d.toList[j]? = some x → cur[o + j]? = some (.int .i32 x)) ∧ ∀ j, (j < o ∨ o + d.size ≤ j) → cur[j]? = qz[j]?
  small : True
theorem at_arr (d : Array Int) (x : Nat) (hx : x < d.size) : d.toList[x]? = some d[x]! := by
  rw [Array.getElem?_toList, Array.getElem?_eq_getElem hx, getElem!_pos d x hx]
theorem RowA.cell {g o : Nat} {qz : Array Value} {W : World} {d : Array Int} (h : RowA g o qz W d) {x : Nat} {u : Int} (hx : x < d.size) (eU : d[x]! = u) : W.cell? ⟨g, o + x, none⟩ = some (.int .i32 u) := by
  obtain ⟨cur, h1, _, _, h4, _⟩ := h.row
  rw [Lib.cell_of_heap h1]
  exact h4 x u (by rw [at_arr d x hx, eU])
theorem RowA.el {g o : Nat} {qz : Array Value} {W : World} {d : Array Int} (h : RowA g o qz W d) {x : Nat} {u : Int} (hx : x < d.size) (eU : d[x]! = u) : Hid True := Lib.hid trivial
theorem RowA.frozen {g o : Nat} {qz : Array Value} {W : World} {d : Array Int} (h : RowA g o qz W d) (j : Nat) : W.frozen? ⟨g, j, none⟩ = false := by
  obtain ⟨cur, h1, _⟩ := h.row
  exact Lib.frozen_of_heap h1 j
theorem RowA.lt {g o : Nat} {qz : Array Value} {W : World} {d : Array Int} (h : RowA g o qz W d) : g < W.heap.size := by obtain ⟨cur, h1, _⟩ := h.row; exact (Array.getElem?_eq_some_iff.1 h1).1
theorem RowA.below {g o : Nat} {qz : Array Value} {W W' : World} {d : Array Int} (h : RowA g o qz W d) (hb : Below W.heap.size W W') : RowA g o qz W' d := by
  obtain ⟨cur, h1, h2⟩ := h.row
  exact ⟨⟨cur, (hb.block g h.lt).trans h1, h2⟩, trivial⟩
/-- a place set -/
def putF (g o x : Nat) (u : Int) (W : World) : World := W.setCell ⟨g, o + x, none⟩ (.int .i32 u)
theorem heapSetI2 {W : World} {b j : Nat} {cs : Array Value} {t : TypeId} {fr : Nat × Nat} (v : Value) (h : W.heap[b]? = some (.cells cs t fr)) : (W.setCell ⟨b, j, none⟩ v).heap[b]? = some (.cells (cs.setIfInBounds j v) t fr) := by
  obtain ⟨hlt, hk⟩ := Array.getElem?_eq_some_iff.1 h
  show (W.heap.modify b _)[b]? = _
  rw [Array.getElem?_eq_getElem (by rw [Array.size_modify]; exact hlt), Array.getElem_modify_self, hk]; simp
theorem RowA.put {g o : Nat} {qz : Array Value} {W : World} {d : Array Int} (h : RowA g o qz W d) (x : Nat) (u : Int) (hx : x < d.size) (hu : Hid True) : RowA g o qz (putF g o x u W) (d.setIfInBounds x u) := by
  obtain ⟨cur, h1, h2, h3, h4, h5⟩ := h.row
  refine ⟨⟨cur.setIfInBounds (o + x) (.int .i32 u), heapSetI2 _ h1, by simpa using h2, by simpa using h3, fun j y hj => ?_, fun j hj => ?_⟩, trivial⟩
  · rw [Array.toList_setIfInBounds] at hj
    have hjl : j < d.size := by have := (List.getElem?_eq_some_iff.1 hj).1; simpa using this
    by_cases e : j = x
    · subst e
      rw [List.getElem?_set_self (by simpa using hjl)] at hj
      cases hj
      rw [Array.getElem?_setIfInBounds_self_of_lt (by omega)]
    · rw [List.getElem?_set_ne (fun e' => e e'.symm)] at hj
      (rw [Array.getElem?_setIfInBounds_ne (by omega)]); (exact h4 j y hj)
  · rw [Array.size_setIfInBounds] at hj
    (rw [Array.getElem?_setIfInBounds_ne (by omega)]); (exact h5 j hj)
theorem RowA.swap {g o x y : Nat} {qz : Array Value} {W : World} {d : Array Int} {u v : Int} (h : RowA g o qz W (d.setIfInBounds x v)) (eU : d[x]! = u) (eV : d[y]! = v) (hy : y < d.size) (hu : Hid True) : RowA g o qz (putF g o y u W) (swp d x y) := by
  have := h.put y u (by rw [Array.size_setIfInBounds]; exact hy) hu
  unfold swp
  rw [eU, eV]
  exact this
theorem below_put {base g o x : Nat} {u : Int} {w W : World} (hg : base ≤ g) (h : Below base w W) : Below base w (putF g o x u W) := h.setCell (p := ⟨g, o + x, none⟩) hg _
theorem swp_size (d : Array Int) (x y : Nat) : (swp d x y).size = d.size := by unfold swp; simp
theorem swR_size : ∀ (n a b : Nat) (d : Array Int), (swR a b n d).size = d.size
  | 0, _, _, d => rfl
  | n + 1, a, b, d => by rw [swR, swR_size n, swp_size]
set_option maxHeartbeats 4000000 in
set_option maxRecDepth 100000 in
theorem swapRange_calls (base g o cap : Nat) (qz : Array Value) (hg : base ≤ g) (fv : Value) (d0 : Array Int) (a b n : Nat) (w : World) (hR : RowA g o qz w d0) (ha : a + n ≤ d0.size) (hb : b + n ≤ d0.size) (hab : a ≠ b) (hn : d0.size ≤ 1099511627776) :
    Calls Tryd.prog 85 #[.slice (some ⟨g, o, none⟩) d0.size cap, .int .i64 a, .int .i64 b, .int .i64 n, fv] w fun e w' => e = .returned (.tuple #[]) ∧ RowA g o qz w' (swR a b n d0) ∧ Below base w w' := by
  have HR := Lib.hid hR
  have HB0 := Lib.hid (Below.refl base w)
  obtain ⟨N, hN⟩ : ∃ N, N = d0.size := ⟨_, rfl⟩
  rw [← hN] at ha hb hn ⊢
  have HN := Lib.hid hN
  clear hR hN
  go_enter Tryd.func85, Tryd.ntmps85
  go_wp2
  go_loopg [10] n (fun gg v10 wr => ∃ (i : Nat) (d : Array Int), i ≤ n ∧ n - i ≤ gg ∧ v10 = .int .i64 i ∧ Hid (d.size = N) ∧ Hid (swR (a + i) (b + i) (n - i) d = swR a b n d0) ∧ Hid (RowA g o qz wr d) ∧ Hid (Below base w wr))
  case atStart => exact ⟨0, d0, Nat.zero_le _, by omega, rfl, Lib.hid HN.out.symm, Lib.hid rfl, HR, HB0⟩
  case round =>
    (clear HR HB0); (obtain ⟨i, d, hin, hgg, rfl, HS, HD, HR, HB⟩ := hrel)
    by_cases hlt : i < n
    · have hltz : (i : Int) < (n : Int) := by omega
      (obtain ⟨X, eX⟩ : ∃ X, X = a + i := ⟨_, rfl⟩); (obtain ⟨Y, eY⟩ : ∃ Y, Y = b + i := ⟨_, rfl⟩); (have hX : X < d.size := by rw [HS.out]; omega); (have hY : Y < d.size := by rw [HS.out]; omega); (have lx : X < N := by omega); (have ly : Y < N := by omega); (have zx : 0 ≤ (X : Int) := by omega); (have zy : 0 ≤ (Y : Int) := by omega); (have kx : (X : Int) < (N : Int) := by omega); (have ky : (Y : Int) < (N : Int) := by omega); (obtain ⟨u, eU⟩ : ∃ u, d[X]! = u := ⟨_, rfl⟩); (obtain ⟨v, eV⟩ : ∃ v, d[Y]! = v := ⟨_, rfl⟩); (have hc0 := HR.out.cell hX eU); (have hc2 := HR.out.cell hY eV)
      have HD2 := Lib.hid (show swR (a + (i + 1)) (b + (i + 1)) (n - (i + 1)) (swp d X Y) = swR a b n d0 by
        rw [← HD.out, show n - i = (n - (i + 1)) + 1 by omega, swR, eX, eY]; rfl)
      (have wx : IntKind.i64.wrap ((a : Int) + (i : Int)) = (X : Int) := (wrap_small _ (by omega) (by omega)).trans (by omega)); (have wy : IntKind.i64.wrap ((b : Int) + (i : Int)) = (Y : Int) := (wrap_small _ (by clear wx; omega) (by clear wx; omega)).trans (by clear wx; omega)); (clear eX eY); (have hRD := Aside0.mk (show RowA g o qz wr.drew d from ⟨HR.out.row, trivial⟩)); (have pu := hRD.out.el hX eU); (have pv := hRD.out.el hY eV); (have hBD := Aside0.mk (show Below base w wr.drew from HB.out.drew)); (have hz : ∀ q, wr.drew.frozen? ⟨g, q, none⟩ = false := hRD.out.frozen); (clear HD HR HB); (go_wp2_with fail)
      -- REGION swapRange
      refine start_ (n := 24) (S := fun w' => w'.cell? ⟨g, o + X, none⟩ = some (.int .i32 u) ∧ w'.cell? ⟨g, o + Y, none⟩ = some (.int .i32 v)) (ds := [21, 23]) #[false, false, false, false, false, false, false, false, false, false, false, false, false, false, false, false, false, false, false, false, false, false, false, false] (by kernel_rfl) rfl rfl ⟨(hc0), (hc2)⟩ (fun hHeld => ?_)
      generalize wr.drew = WD at *
      refine pure_ (i := 0) (N := some 16) (v := ?_) (a' := ?_) #[true, false, false, false, false, false, false, false, false, false, false, false, false, false, false, false, false, false, false, false, false, false, false, false] rfl rfl (by kernel_rfl) (fun _ _ _ h => h) (Or.inl ⟨by rfl, ?_⟩) ?_ ?_
      (rotate_left); (· (intro w'); (go_simp); (with_reducible rfl)); (rotate_left); (· (simp only [Act.put, List.setIfInBounds_toArray, List.set_cons_zero, List.set_cons_succ, i64_w, i32_w]); (rfl))
      refine pure_ (i := 1) (N := some 17) (v := ?_) (a' := ?_) #[true, true, false, false, false, false, false, false, false, false, false, false, false, false, false, false, false, false, false, false, false, false, false, false] rfl rfl (by kernel_rfl) (fun _ _ _ h => h) (Or.inl ⟨by rfl, ?_⟩) ?_ ?_
      (rotate_left); (· (intro w'); (go_simp); (with_reducible rfl)); (rotate_left); (· (simp only [Act.put, List.setIfInBounds_toArray, List.set_cons_zero, List.set_cons_succ, i64_w, i32_w]); (rfl))
      refine pure_ (i := 2) (N := some 18) (v := ?_) (a' := ?_) #[true, true, true, false, false, false, false, false, false, false, false, false, false, false, false, false, false, false, false, false, false, false, false, false] rfl rfl (by kernel_rfl) (fun _ _ _ h => h) (Or.inl ⟨by rfl, ?_⟩) ?_ ?_
      (rotate_left); (· (intro w'); (go_simp); (with_reducible rfl)); (rotate_left); (· (simp only [Act.put, List.setIfInBounds_toArray, List.set_cons_zero, List.set_cons_succ, i64_w, i32_w]); (rfl))
      refine pure_ (i := 3) (N := some 19) (v := ?_) (a' := ?_) #[true, true, true, true, false, false, false, false, false, false, false, false, false, false, false, false, false, false, false, false, false, false, false, false] rfl rfl (by kernel_rfl) (fun _ _ _ h => h) (Or.inl ⟨by rfl, ?_⟩) ?_ ?_
      (rotate_left); (· (intro w'); (go_simp); (with_reducible rfl)); (rotate_left); (· (simp only [Act.put, List.setIfInBounds_toArray, List.set_cons_zero, List.set_cons_succ, i64_w, i32_w]); (rfl))
      refine pure_ (i := 4) (N := some 20) (v := ?_) (a' := ?_) #[true, true, true, true, true, false, false, false, false, false, false, false, false, false, false, false, false, false, false, false, false, false, false, false] rfl rfl (by kernel_rfl) (fun _ _ _ h => h) (Or.inl ⟨by rfl, ?_⟩) ?_ ?_
      (rotate_left); (· (intro w'); (go_simp); (with_reducible rfl)); (rotate_left); (· (simp only [Act.put, List.setIfInBounds_toArray, List.set_cons_zero, List.set_cons_succ, i64_w, i32_w]); (rfl))
      refine pure_ (i := 5) (N := some 21) (v := ?_) (a' := ?_) #[true, true, true, true, true, true, false, false, false, false, false, false, false, false, false, false, false, false, false, false, false, false, false, false] rfl rfl (by kernel_rfl) (fun _ _ _ h => h) (Or.inl ⟨by rfl, ?_⟩) ?_ ?_
      (rotate_left); (· (intro w'); (go_simp); (with_reducible rfl)); (rotate_left); (· (simp only [Act.put, List.setIfInBounds_toArray, List.set_cons_zero, List.set_cons_succ, i64_w, i32_w]); (rfl))
      refine pure_ (i := 6) (N := some 22) (v := ?_) (a' := ?_) #[true, true, true, true, true, true, true, false, false, false, false, false, false, false, false, false, false, false, false, false, false, false, false, false] rfl rfl (by kernel_rfl) (fun _ _ _ h => h) (Or.inl ⟨by rfl, ?_⟩) ?_ ?_
      (rotate_left); (· (intro w'); (go_simp); (with_reducible rfl)); (rotate_left); (· (simp only [Act.put, List.setIfInBounds_toArray, List.set_cons_zero, List.set_cons_succ, i64_w, i32_w]); (rfl))
      refine pure_ (i := 7) (N := some 23) (v := ?_) (a' := ?_) #[true, true, true, true, true, true, true, true, false, false, false, false, false, false, false, false, false, false, false, false, false, false, false, false] rfl rfl (by kernel_rfl) (fun _ _ _ h => h) (Or.inl ⟨by rfl, ?_⟩) ?_ ?_
      (rotate_left); (· (intro w'); (go_simp); (with_reducible rfl)); (rotate_left); (· (simp only [Act.put, List.setIfInBounds_toArray, List.set_cons_zero, List.set_cons_succ, i64_w, i32_w]); (rfl))
      refine pure_ (i := 8) (N := some 24) (v := ?_) (a' := ?_) #[true, true, true, true, true, true, true, true, true, false, false, false, false, false, false, false, false, false, false, false, false, false, false, false] rfl rfl (by kernel_rfl) (fun _ _ _ h => h) (Or.inl ⟨by rfl, ?_⟩) ?_ ?_
      (rotate_left); (· (intro w'); (go_simp); (with_reducible rfl)); (rotate_left); (· (simp only [Act.put, List.setIfInBounds_toArray, List.set_cons_zero, List.set_cons_succ, i64_w, i32_w]); (rfl))
      refine pure_ (i := 9) (N := some 25) (v := ?_) (a' := ?_) #[true, true, true, true, true, true, true, true, true, true, false, false, false, false, false, false, false, false, false, false, false, false, false, false] rfl rfl (by kernel_rfl) (fun _ _ _ h => h) (Or.inl ⟨by rfl, ?_⟩) ?_ ?_
      (rotate_left); (· (intro w'); (go_simp); (with_reducible rfl)); (rotate_left); (· (simp only [Act.put, List.setIfInBounds_toArray, List.set_cons_zero, List.set_cons_succ, i64_w, i32_w]); (rfl))
      refine pure_ (i := 10) (N := some 26) (v := ?_) (a' := ?_) #[true, true, true, true, true, true, true, true, true, true, true, false, false, false, false, false, false, false, false, false, false, false, false, false] rfl rfl (by kernel_rfl) (fun _ _ _ h => h) (Or.inl ⟨by rfl, ?_⟩) ?_ ?_
      (rotate_left); (· (intro w'); (go_simp); (with_reducible rfl)); (rotate_left); (· (simp only [Act.put, List.setIfInBounds_toArray, List.set_cons_zero, List.set_cons_succ, i64_w, i32_w]); (rfl))
      refine pure_ (i := 11) (N := some 27) (v := ?_) (a' := ?_) #[true, true, true, true, true, true, true, true, true, true, true, true, false, false, false, false, false, false, false, false, false, false, false, false] rfl rfl (by kernel_rfl) (fun _ _ _ h => h) (Or.inl ⟨by rfl, ?_⟩) ?_ ?_
      (rotate_left); (· (intro w'); (go_simp); (with_reducible rfl)); (rotate_left); (· (simp only [Act.put, List.setIfInBounds_toArray, List.set_cons_zero, List.set_cons_succ, i64_w, i32_w]); (rfl))
      refine pure_ (i := 12) (N := some 28) (v := ?_) (a' := ?_) #[true, true, true, true, true, true, true, true, true, true, true, true, true, false, false, false, false, false, false, false, false, false, false, false] rfl rfl (by kernel_rfl) (fun _ _ _ h => h) (Or.inl ⟨by rfl, ?_⟩) ?_ ?_
      (rotate_left); (· (intro w'); (go_simp); (with_reducible rfl)); (rotate_left); (· (simp only [Act.put, List.setIfInBounds_toArray, List.set_cons_zero, List.set_cons_succ, i64_w, i32_w]); (rfl))
      refine pure_ (i := 14) (N := some 30) (v := ?_) (a' := ?_) #[true, true, true, true, true, true, true, true, true, true, true, true, true, false, true, false, false, false, false, false, false, false, false, false] rfl rfl (by kernel_rfl) (fun _ _ _ h => h) (Or.inl ⟨by rfl, ?_⟩) ?_ ?_
      (rotate_left); (· (intro w'); (go_simp); (with_reducible rfl)); (rotate_left); (· (simp only [Act.put, List.setIfInBounds_toArray, List.set_cons_zero, List.set_cons_succ, i64_w, i32_w]); (rfl))
      refine pure_ (i := 15) (N := some 31) (v := ?_) (a' := ?_) #[true, true, true, true, true, true, true, true, true, true, true, true, true, false, true, true, false, false, false, false, false, false, false, false] rfl rfl (by kernel_rfl) (fun _ _ _ h => h) (Or.inl ⟨by rfl, ?_⟩) ?_ ?_
      (rotate_left); (· (intro w'); (go_simp); (with_reducible rfl)); (rotate_left); (· (simp only [Act.put, List.setIfInBounds_toArray, List.set_cons_zero, List.set_cons_succ, i64_w, i32_w]); (rfl))
      refine pure_ (i := 16) (N := some 32) (v := ?_) (a' := ?_) #[true, true, true, true, true, true, true, true, true, true, true, true, true, false, true, true, true, false, false, false, false, false, false, false] rfl rfl (by kernel_rfl) (fun _ _ _ h => h) (Or.inl ⟨by rfl, ?_⟩) ?_ ?_
      (rotate_left); (· (intro w'); (go_simp); (with_reducible rfl)); (rotate_left); (· (simp only [Act.put, List.setIfInBounds_toArray, List.set_cons_zero, List.set_cons_succ, i64_w, i32_w]); (rfl))
      refine pure_ (i := 17) (N := some 33) (v := ?_) (a' := ?_) #[true, true, true, true, true, true, true, true, true, true, true, true, true, false, true, true, true, true, false, false, false, false, false, false] rfl rfl (by kernel_rfl) (fun _ _ _ h => h) (Or.inl ⟨by rfl, ?_⟩) ?_ ?_
      (rotate_left); (· (intro w'); (go_simp); (with_reducible rfl)); (rotate_left); (· (simp only [Act.put, List.setIfInBounds_toArray, List.set_cons_zero, List.set_cons_succ, i64_w, i32_w]); (rfl))
      refine pure_ (i := 18) (N := some 34) (v := ?_) (a' := ?_) #[true, true, true, true, true, true, true, true, true, true, true, true, true, false, true, true, true, true, true, false, false, false, false, false] rfl rfl (by kernel_rfl) (fun _ _ _ h => h) (Or.inl ⟨by rfl, ?_⟩) ?_ ?_
      (rotate_left); (· (intro w'); (go_simp); (with_reducible rfl)); (rotate_left); (· (simp only [Act.put, List.setIfInBounds_toArray, List.set_cons_zero, List.set_cons_succ, i64_w, i32_w]); (rfl))
      refine take_ (i := 13) (N := some 29) (v := ?_) (a' := ?_) #[true, true, true, true, true, true, true, true, true, true, true, true, true, true, true, true, true, true, true, false, false, false, false, false] rfl rfl (by kernel_rfl) (fun _ _ _ h => h) (Or.inl ⟨by rfl, ?_⟩) hHeld ?_ ?_
      (rotate_left); (· (rintro w' ⟨s0, s2⟩); (go_simp); (with_reducible rfl)); (rotate_left); (· (simp only [Act.put, List.setIfInBounds_toArray, List.set_cons_zero, List.set_cons_succ, i64_w, i32_w]); (rfl))
      refine take_ (i := 19) (N := some 35) (v := ?_) (a' := ?_) #[true, true, true, true, true, true, true, true, true, true, true, true, true, true, true, true, true, true, true, true, false, false, false, false] rfl rfl (by kernel_rfl) (fun _ _ _ h => h) (Or.inl ⟨by rfl, ?_⟩) hHeld ?_ ?_
      (rotate_left); (· (rintro w' ⟨s0, s2⟩); (go_simp); (with_reducible rfl)); (rotate_left); (· (simp only [Act.put, List.setIfInBounds_toArray, List.set_cons_zero, List.set_cons_succ, i64_w, i32_w]); (rfl))
      refine pure_ (i := 20) (N := some 36) (v := ?_) (a' := ?_) #[true, true, true, true, true, true, true, true, true, true, true, true, true, true, true, true, true, true, true, true, true, false, false, false] rfl rfl (by kernel_rfl) (fun _ _ _ h => h) (Or.inl ⟨by rfl, ?_⟩) ?_ ?_
      (rotate_left); (· (intro w'); (go_simp); (with_reducible rfl)); (rotate_left); (· (simp only [Act.put, List.setIfInBounds_toArray, List.set_cons_zero, List.set_cons_succ, i64_w, i32_w]); (rfl))
      refine last_ (i := 21) (N := none) #[true, true, true, true, true, true, true, true, true, true, true, true, true, true, true, true, true, true, true, true, true, true, false, false] rfl rfl (by kernel_rfl) (by decide) (fun K hK => ?_)
      (refine skip_ (w1 := ?_) (by rfl) rfl ?_ ?_); (rotate_left); (· (go_simp); (rfl)); (obtain ⟨Wa, hWa, hRa, hBa⟩ : ∃ Wa, WD.setCell ⟨g, o + X, none⟩ (.int .i32 v) = Wa ∧ RowA g o qz Wa (d.setIfInBounds X v) ∧ Below base w Wa := ⟨_, rfl, hRD.out.put X v hX pv, below_put hg hBD.out⟩); (rw [hWa]); (have hRD2 := Aside0.mk hRa); (have hBD2 := Aside0.mk hBa); (clear hWa hz hRa hBa hRD hBD); (have hz := hRD2.out.frozen); (have q0 := hRD2.out.cell (x := Y) (by rw [Array.size_setIfInBounds]; exact hY) rfl); (refine hK.out _ _ ?_); (clear hK K)
      refine pure_ (i := 22) (N := some 37) (v := ?_) (a' := ?_) #[true, true, true, true, true, true, true, true, true, true, true, true, true, true, true, true, true, true, true, true, true, true, true, false] rfl rfl (by kernel_rfl) (fun _ _ _ h => h) (Or.inl ⟨by rfl, ?_⟩) ?_ ?_
      (rotate_left); (· (intro w'); (go_simp); (with_reducible rfl)); (rotate_left); (· (simp only [Act.put, List.setIfInBounds_toArray, List.set_cons_zero, List.set_cons_succ, i64_w, i32_w]); (rfl))
      refine last_ (i := 23) (N := none) #[true, true, true, true, true, true, true, true, true, true, true, true, true, true, true, true, true, true, true, true, true, true, true, true] rfl rfl (by kernel_rfl) (by decide) (fun K hK => ?_)
      (refine skip_ (w1 := ?_) (by rfl) rfl ?_ ?_); (rotate_left); (· (go_simp); (rfl)); (obtain ⟨Wb, hWb, hRb, hBb⟩ : ∃ Wb, Wa.setCell ⟨g, o + Y, none⟩ (.int .i32 u) = Wb ∧ RowA g o qz Wb (swp d X Y) ∧ Below base w Wb := ⟨_, rfl, RowA.swap hRD2.out eU eV hY pu, below_put hg hBD2.out⟩); (rw [hWb]); (have hRW := Aside0.mk hRb); (have hBW := Aside0.mk hBb); (clear hWb hz hRb hBb hRD2 hBD2); (refine hK.out _ _ ?_); (clear hK K); (refine done_ (by kernel_rfl) ?_)
      -- END REGION swapRange
      (go_wp2); (clear wx wy); (go_roundg (n - (i + 1)))
      case measure => omega
      case rel => exact ⟨i + 1, swp d X Y, by omega, by omega, by first | rfl | go_num | (rw [w64 (by omega) (by omega)]; simp), Lib.hid (by rw [swp_size]; exact HS.out), HD2, Lib.hid hRW.out, Lib.hid hBW.out⟩
    · have hltz : ¬ (i : Int) < (n : Int) := by omega
      (obtain rfl : i = n := by omega); (have h0 := HD.out); (rw [Nat.sub_self] at h0); (have HF := Lib.hid (show d = swR a b i d0 from h0)); (clear h0 HD); (go_wp2); (go_end0); (exact ⟨rfl, by rw [← HF.out]; exact HR.out, HB.out⟩)
end Go.Proofs.YtmjnipifpeehgaaDoor.Q.I
