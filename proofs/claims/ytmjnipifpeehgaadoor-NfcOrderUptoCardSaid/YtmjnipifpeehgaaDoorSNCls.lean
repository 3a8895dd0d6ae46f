/- tables.Class: the class that a rune has. -/
import Derived.Test.YtmjnipifpeehgaaDoorSQbase
import Derived.WalkKit
import Derived.Deep.LoopGhost
import Derived.Lib.Hide
import Derived.Shelf.SlicesQ.Load
import Derived.Lib.Builder
import Derived.Test.YtmjnipifpeehgaaDoorSQtables0
set_option linter.unusedSimpArgs false
set_option linter.unusedVariables false
namespace Go.Proofs.YtmjnipifpeehgaaDoor.Q
open Go.RowKit Go.Proofs.YtmjnipifpeehgaaDoorW.PrintWords Go.Proofs.YtmjnipifpeehgaaDoorW.PrintLast Go.Proofs.YtmjnipifpeehgaaDoorW.PrintMore
theorem alloc3 (w : World) (o1 o2 o3 : Obj) : (((w.alloc o1).alloc o2).alloc o3).heap[w.heap.size]? = some o1 ∧ (((w.alloc o1).alloc o2).alloc o3).heap[w.heap.size + 1]? = some o2 ∧ (((w.alloc o1).alloc o2).alloc o3).heap[w.heap.size + 2]? = some o3 ∧ (((w.alloc o1).alloc o2).alloc o3).heap.size = w.heap.size + 3 := by
  have h : (((w.alloc o1).alloc o2).alloc o3).heap = ((w.heap.push o1).push o2).push o3 := rfl
  rw [h]
  refine ⟨?_, ?_, ?_, ?_⟩
  · rw [Array.getElem?_push, if_neg (by simp; omega), Array.getElem?_push, if_neg (by simp), Array.getElem?_push, if_pos rfl]
  · rw [Array.getElem?_push, if_neg (by simp), Array.getElem?_push, if_pos (by simp)]
  · rw [Array.getElem?_push, if_pos (by simp)]
  · simp
def hitAt (p : Nat → Bool) (n : Nat) (r : Int) : Prop := (r = -1 ∧ ∀ j, j < n → p j = false) ∨ ∃ k : Nat, r = k ∧ k < n ∧ p k = true ∧ ∀ j, j < k → p j = false
set_option maxHeartbeats 2000000 in
theorem clsIdx_calls (A : Option Addr) (c : Nat) (l : List S43) (q : Int → Int → Bool) (g : Nat) (lb : Array Value) (eg : ∀ args w, (callFunc g args).run Tryd.prog w = .ok (.enter g args) w) (w : World) (hn : l.length ≤ 140737488355328)
    (hC : Kd.C k43 w A l.length l)
    (hp : ∀ (W : World) x0 x1, Below w.heap.size w W → Calls Tryd.prog g (#[.agg #[.int .i32 x0, .int .u8 x1]] ++ lb) W fun e w' => e = .returned (.bool (q x0 x1)) ∧ Below W.heap.size W w') :
    Calls Tryd.prog 38 #[.slice A l.length c, .func (.func g) #[] lb] w fun e w' => ∃ r, e = .returned (.int .i64 r) ∧ hitAt (fun j => q (rd_T43 l j).f0 (rd_T43 l j).f1) l.length r ∧ Below w.heap.size w w' := by
  have HC := Lib.hid hC
  have HP := Lib.hid hp
  clear hC hp
  generalize hnl : l.length = n at *
  go_enter Tryd.func38, Tryd.ntmps38
  go_wp2
  go_loopg [5, 8] n (fun gg _ s8 wr => ∃ kk : Nat, kk ≤ n ∧ n - kk ≤ gg ∧ s8 = .int .i64 kk ∧ Hid (Below w.heap.size w wr) ∧ Hid (∀ j : Nat, j < kk → q (rd_T43 l j).f0 (rd_T43 l j).f1 = false))
  case atStart => exact ⟨0, Nat.zero_le _, by omega, rfl, Lib.hid (Below.refl _ w), Lib.hid (fun j hj => absurd hj (Nat.not_lt_zero _))⟩
  case round =>
    obtain ⟨kk, hkk, hg, rfl, BW, HA⟩ := hrel
    by_cases hlt : kk < n
    · have hltz : (kk : Int) < (n : Int) := by omega
      (obtain ⟨ad, rfl, k0, k1⟩ := at_T43 (Kd.C_below HC.out BW.out) (kk : Int) (by omega) (by omega)); (rw [Int.toNat_natCast] at k0 k1); (have hcall := HP.out wr (rd_T43 l (kk : Int)).f0 (rd_T43 l (kk : Int)).f1 BW.out); (generalize hd0 : (rd_T43 l (kk : Int)).f0 = y0 at k0 hcall); (generalize hd1 : (rd_T43 l (kk : Int)).f1 = y1 at k1 hcall); (have HD := Lib.hid (And.intro hd0 hd1)); (clear hd0 hd1)
      cases hq : q y0 y1 with
      | true =>
        (rw [hq] at hcall); (go_wp2_with fail); (refine hcall.mono ?_); (rintro e w' ⟨rfl, hb'⟩); (go_wp2); (go_ret); (exact ⟨_, rfl, .inr ⟨kk, rfl, hlt, by show q _ _ = true; rw [HD.out.1, HD.out.2]; exact hq, HA.out⟩, BW.out.trans (hb'.mono BW.out.size)⟩)
      | false =>
        (rw [hq] at hcall); (go_wp2_with fail); (refine hcall.mono ?_); (rintro e w' ⟨rfl, hb'⟩); (go_wp2); (go_roundg (n - (kk + 1)))
        case measure => omega
        case rel =>
          refine ⟨kk + 1, by omega, by omega, by go_num, Lib.hid (BW.out.trans (hb'.mono BW.out.size)), Lib.hid (fun j hj => ?_)⟩
          by_cases e : j = kk
          · subst e; show q _ _ = false; rw [HD.out.1, HD.out.2]; exact hq
          · exact HA.out j (by omega)
    · have hltz : ¬ (kk : Int) < (n : Int) := by omega
      (obtain rfl : kk = n := by omega); (go_wp2); (go_ret); (exact ⟨_, rfl, .inl ⟨rfl, HA.out⟩, BW.out⟩)
theorem rd_cls (l : List S43) (j : Nat) (hj : j < l.length) : rd_T43 l (j : Int) = l[j]'hj := by simp [rd_T43, List.getD_eq_getElem?_getD, hj]
set_option maxHeartbeats 2000000 in
theorem clsClo_calls (x0 : Int) (x1 : Int) (r : Int) (b0 b1 : Nat) (W : World) (h0 : W.cell? ⟨b0, 0, none⟩ = some (.func (.func 26) #[] #[])) (h1 : W.cell? ⟨b1, 0, none⟩ = some (.int .i32 r)) :
    Calls Tryd.prog 39 (#[.agg #[.int .i32 x0, .int .u8 x1]] ++ #[.pointer (some ⟨b0, 0, none⟩), .pointer (some ⟨b1, 0, none⟩)]) W fun e w' => e = .returned (.bool (x0 == r)) ∧ Below W.heap.size W w' := by
  have eo : ∀ args w, (callFunc 26 args).run Tryd.prog w = .ok (.enter 26 args) w := enters_of Tryd.func26 (by kernel_rfl) rfl
  have hcall := fun w => tables_ofClass.calls x0 x1 x0 x0 w rfl
  have l0 := World.block_lt_of_cell? _ _ h0
  have l1 := World.block_lt_of_cell? _ _ h1
  have hB : Below W.heap.size W (W.alloc (.cells #[.int .i32 x0, .int .u8 x1] 43)) := (Below.refl _ W).alloc (Nat.le_refl _) _
  have HB := Lib.hid hB
  have H1 := Lib.hid h1
  have HL := Lib.hid (And.intro l0 l1)
  have hc0 : ∀ o, (W.alloc o).cell? ⟨b0, 0, none⟩ = some (.func (.func 26) #[] #[]) := fun o => (World.cell?_alloc_lt _ _ _ l0).trans h0
  clear hB l0 l1 h0 h1
  go_enter Tryd.func39, Tryd.ntmps39
  go_wp2_with fail
  refine (hcall _).mono ?_
  rintro e w1 ⟨rfl, hb1⟩
  have HB1 := Lib.hid (HB.out.trans (hb1.mono HB.out.size))
  have hc1 : w1.cell? ⟨b1, 0, none⟩ = some (.int .i32 r) := (HB1.out.cell HL.out.2).trans H1.out
  clear hb1 hcall hc0
  by_cases h1 : x0 ≤ r
  · by_cases h2 : r ≤ x0
    · obtain rfl : x0 = r := by omega
      (clear h1 h2); (go_wp2); (go_ret); (exact ⟨by simp, HB1.out⟩)
    · go_wp2
      (go_ret); (exact ⟨by show Ending.returned (Value.bool (decide (r ≤ x0))) = _; rw [decide_eq_false (by omega), beq_eq_false_iff_ne.2 (by omega)], HB1.out⟩)
  · go_wp2
    (go_ret); (exact ⟨by show Ending.returned (Value.bool false) = _; rw [beq_eq_false_iff_ne.2 (by omega)], HB1.out⟩)
theorem cls_hit (l : List S43) (r x : Int) (h : hitAt (fun j => (rd_T43 l j).f0 == r) l.length x) :
    (x = -1 ∧ l.find? (fun y => y.f0 == r) = none) ∨ ∃ (k : Nat) (hk : k < l.length), x = k ∧ l.find? (fun y => y.f0 == r) = some l[k] := by
  rcases h with ⟨rfl, h⟩ | ⟨k, rfl, hk, hq, h⟩
  · refine .inl ⟨rfl, List.find?_eq_none.2 (fun y hy => ?_)⟩
    (obtain ⟨j, hj, rfl⟩ := List.mem_iff_getElem.1 hy); (have := h j hj); (simp only [rd_cls l j hj] at this); (rw [this]; decide)
  · refine .inr ⟨k, hk, rfl, ?_⟩
    (rw [List.find?_eq_some_iff_getElem]); (simp only [rd_cls l k hk] at hq)
    refine ⟨hq, k, hk, rfl, fun j hj => ?_⟩
    (have := h j hj); (simp only [rd_cls l j (by omega)] at this); (rw [this]; rfl)
set_option maxHeartbeats 4000000 in
theorem clsFind_calls (A : Option Addr) (c : Nat) (l : List S43) (r : Int) (w : World) (hn : l.length ≤ 1073741824) (hC : Kd.C k43 w A l.length l) :
    Calls Tryd.prog 25 #[.slice A l.length c, .int .i32 r, .func (.func 26) #[] #[]] w fun e w' => (∀ x, l.find? (fun y => y.f0 == r) = some x → e = .returned (.tuple #[.agg #[.int .i32 x.f0, .int .u8 x.f1], .bool true])) ∧ (l.find? (fun y => y.f0 == r) = none → e = .returned (.tuple #[.agg #[.int .i32 0, .int .u8 0], .bool false])) ∧ Below w.heap.size w w' := by
  have HC := Lib.hid hC
  have hB3 : Below w.heap.size w (((w.alloc (.cells #[.int .i32 r] 21)).alloc (.cells #[.func (.func 26) #[] #[]] 52)).alloc (.cells #[.int .i32 0, .int .u8 0] 43)) := (((Below.refl _ w).alloc (Nat.le_refl _) _).alloc (by simp) _).alloc (by simp; omega) _
  have HB3 := Lib.hid hB3
  obtain ⟨ha1, ha2, ha3, ha4⟩ := alloc3 w (.cells #[.int .i32 r] 21) (.cells #[.func (.func 26) #[] #[]] 52) (.cells #[.int .i32 0, .int .u8 0] 43)
  have hw0 : (((w.alloc (.cells #[.int .i32 r] 21)).alloc (.cells #[.func (.func 26) #[] #[]] 52)).alloc (.cells #[.int .i32 0, .int .u8 0] 43)).cell? ⟨w.heap.size, 0, none⟩ = some (.int .i32 r) := (Lib.cell_of_heap ha1 0).trans rfl
  have hw1 : (((w.alloc (.cells #[.int .i32 r] 21)).alloc (.cells #[.func (.func 26) #[] #[]] 52)).alloc (.cells #[.int .i32 0, .int .u8 0] 43)).cell? ⟨w.heap.size + 1, 0, none⟩ = some (.func (.func 26) #[] #[]) := (Lib.cell_of_heap ha2 0).trans rfl
  have hidx := clsIdx_calls A c l (fun x0 x1 => x0 == r) 39 #[.pointer (some ⟨w.heap.size + 1, 0, none⟩), .pointer (some ⟨w.heap.size, 0, none⟩)] (enters_of Tryd.func39 (by kernel_rfl) rfl) _ (by omega) (Kd.C_below hC hB3)
    (fun W x0 x1 hW => clsClo_calls x0 x1 r (w.heap.size + 1) w.heap.size W ((hW.cell (World.block_lt_of_cell? _ _ hw1)).trans hw1) ((hW.cell (World.block_lt_of_cell? _ _ hw0)).trans hw0))
  have HA := Lib.hid (And.intro ha3 ha4)
  have HN := Lib.hid hn
  clear hw0 hw1 ha1 ha2 ha3 ha4 hC hn
  generalize hnl : l.length = m at *
  clear hB3
  go_enter Tryd.func25, Tryd.ntmps25
  go_wp2_with fail
  refine hidx.mono ?_
  rintro e w2 ⟨x, rfl, hr, hb2⟩
  rw [← hnl] at hr
  have hs := cls_hit l r x hr
  have HB2 := Lib.hid (HB3.out.trans (hb2.mono HB3.out.size))
  have HK := Lib.hid (show w2.heap[w.heap.size + 1 + 1]? = some (.cells #[.int .i32 0, .int .u8 0] 43) from (hb2.block _ (by rw [HA.out.2]; omega)).trans HA.out.1)
  clear hidx hr hb2 HB3 HA
  have z0 : w2.cell? ⟨w.heap.size + 1 + 1, 0, none⟩ = some (.int .i32 0) := (Lib.cell_of_heap HK.out 0).trans rfl
  have zf0 : w2.frozen? ⟨w.heap.size + 1 + 1, 0, none⟩ = false := Lib.frozen_of_heap HK.out 0
  have za0 : ∀ o, (w2.alloc o).cell? ⟨w.heap.size + 1 + 1, 0, none⟩ = some (.int .i32 0) := fun o => (World.cell?_alloc_lt _ _ _ (World.block_lt_of_cell? _ _ z0)).trans z0
  have zg0 : ∀ o, (w2.alloc o).frozen? ⟨w.heap.size + 1 + 1, 0, none⟩ = false := fun o => Lib.frozen_of_heap ((Below.heap_alloc w2 o _ (World.block_lt_of_cell? _ _ z0)).trans HK.out) 0
  have z1 : w2.cell? ⟨w.heap.size + 1 + 1, 1, none⟩ = some (.int .u8 0) := (Lib.cell_of_heap HK.out 1).trans rfl
  have zf1 : w2.frozen? ⟨w.heap.size + 1 + 1, 1, none⟩ = false := Lib.frozen_of_heap HK.out 1
  have za1 : ∀ o, (w2.alloc o).cell? ⟨w.heap.size + 1 + 1, 1, none⟩ = some (.int .u8 0) := fun o => (World.cell?_alloc_lt _ _ _ (World.block_lt_of_cell? _ _ z1)).trans z1
  have zg1 : ∀ o, (w2.alloc o).frozen? ⟨w.heap.size + 1 + 1, 1, none⟩ = false := fun o => Lib.frozen_of_heap ((Below.heap_alloc w2 o _ (World.block_lt_of_cell? _ _ z1)).trans HK.out) 1
  rcases hs with ⟨rfl, hno⟩ | ⟨k, hk, rfl, hsome⟩
  · have HF := Lib.hid hno
    (clear hno); (have hk := (Below.heap_alloc w2 (.cells #[.int .i32 0, .int .u8 0] 43) _ (World.block_lt_of_cell? _ _ z0)).trans HK.out); (have HK2 := Lib.hid hk); (clear hk); (go_wp2); (have h0 := blk_put (cs' := #[.int .i32 0, .int .u8 0]) HK2.out 0 (.int .i32 0) rfl); (have h1 := blk_put (cs' := #[.int .i32 0, .int .u8 0]) h0 1 (.int .u8 0) rfl)
    refine bodyPost_ret (results_ct (P := Tryd.prog) (fn := Tryd.f25) rfl _ _ (w.heap.size + 1 + 1) 43 _ (0, 0) _ rfl h1 Tryd.underlying43 rfl (by kernel_rfl)) rfl ⟨fun x hx => ?_, fun hx => rfl, ?_⟩
    · rw [HF.out] at hx; cases hx
    · exact below_set (below_set (((HB2.out).alloc HB2.out.size _)) (by omega)) (by omega)
  · have HF := Lib.hid hsome
    (obtain ⟨ad, rfl, k0, k1⟩ := at_T43 (Kd.C_below HC.out HB2.out) (k : Int) (by omega) (by omega)); (rw [Int.toNat_natCast, rd_cls l k hk] at k0 k1); (generalize l[k] = y at *); (have hkm : k < m := by omega); (clear hk hsome); (go_wp2); (have h0 := blk_put (cs' := #[.int .i32 y.f0, .int .u8 0]) HK.out 0 (.int .i32 y.f0) rfl); (have h1 := blk_put (cs' := #[.int .i32 y.f0, .int .u8 y.f1]) h0 1 (.int .u8 y.f1) rfl)
    refine bodyPost_ret (results_ct (P := Tryd.prog) (fn := Tryd.f25) rfl _ _ (w.heap.size + 1 + 1) 43 _ (0, 0) _ rfl h1 Tryd.underlying43 rfl (by kernel_rfl)) rfl ⟨fun x hx => ?_, fun hx => ?_, ?_⟩
    · rw [HF.out] at hx
      (obtain rfl := Option.some.inj hx); (rfl)
    · rw [HF.out] at hx; cases hx
    · exact below_set (below_set (HB2.out) (by omega)) (by omega)
end Go.Proofs.YtmjnipifpeehgaaDoor.Q
