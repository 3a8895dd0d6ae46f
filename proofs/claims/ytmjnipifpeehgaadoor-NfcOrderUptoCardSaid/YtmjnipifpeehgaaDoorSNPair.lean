/- tables.Pair and tables.Put: the pair that a rune has, what two are together. -/
import Derived.Test.YtmjnipifpeehgaaDoorSQbase
import Derived.WalkKit
import Derived.Deep.LoopGhost
import Derived.Lib.Hide
import Derived.Shelf.SlicesQ.Load
import Derived.Lib.Builder
import Derived.Test.YtmjnipifpeehgaaDoorSNCls
import Derived.Test.YtmjnipifpeehgaaDoorSQtables0
set_option linter.unusedSimpArgs false
set_option linter.unusedVariables false
namespace Go.Proofs.YtmjnipifpeehgaaDoor.Q
open Go.RowKit Go.Proofs.YtmjnipifpeehgaaDoorW.PrintWords Go.Proofs.YtmjnipifpeehgaaDoorW.PrintLast Go.Proofs.YtmjnipifpeehgaaDoorW.PrintMore
set_option maxHeartbeats 2000000 in
theorem pairIdx_calls (A : Option Addr) (c : Nat) (l : List S45) (q : Int → Int → Int → Bool → Bool) (g : Nat) (lb : Array Value) (eg : ∀ args w, (callFunc g args).run Tryd.prog w = .ok (.enter g args) w) (w : World) (hn : l.length ≤ 140737488355328)
    (hC : Kd.C k45 w A l.length l)
    (hp : ∀ (W : World) x0 x1 x2 x3, Below w.heap.size w W → Calls Tryd.prog g (#[.agg #[.int .i32 x0, .int .i32 x1, .int .i32 x2, .bool x3]] ++ lb) W fun e w' => e = .returned (.bool (q x0 x1 x2 x3)) ∧ Below W.heap.size W w') :
    Calls Tryd.prog 79 #[.slice A l.length c, .func (.func g) #[] lb] w fun e w' => ∃ r, e = .returned (.int .i64 r) ∧ hitAt (fun j => q (rd_T45 l j).f0 (rd_T45 l j).f1 (rd_T45 l j).f2 (rd_T45 l j).f3) l.length r ∧ Below w.heap.size w w' := by
  have HC := Lib.hid hC
  have HP := Lib.hid hp
  clear hC hp
  generalize hnl : l.length = n at *
  go_enter Tryd.func79, Tryd.ntmps79
  go_wp2
  go_loopg [5, 8] n (fun gg _ s8 wr => ∃ kk : Nat, kk ≤ n ∧ n - kk ≤ gg ∧ s8 = .int .i64 kk ∧ Hid (Below w.heap.size w wr) ∧ Hid (∀ j : Nat, j < kk → q (rd_T45 l j).f0 (rd_T45 l j).f1 (rd_T45 l j).f2 (rd_T45 l j).f3 = false))
  case atStart => exact ⟨0, Nat.zero_le _, by omega, rfl, Lib.hid (Below.refl _ w), Lib.hid (fun j hj => absurd hj (Nat.not_lt_zero _))⟩
  case round =>
    obtain ⟨kk, hkk, hg, rfl, BW, HA⟩ := hrel
    by_cases hlt : kk < n
    · have hltz : (kk : Int) < (n : Int) := by omega
      (obtain ⟨ad, rfl, k0, k1, k2, k3⟩ := at_T45 (Kd.C_below HC.out BW.out) (kk : Int) (by omega) (by omega)); (rw [Int.toNat_natCast] at k0 k1 k2 k3); (have hcall := HP.out wr (rd_T45 l (kk : Int)).f0 (rd_T45 l (kk : Int)).f1 (rd_T45 l (kk : Int)).f2 (rd_T45 l (kk : Int)).f3 BW.out); (generalize hd0 : (rd_T45 l (kk : Int)).f0 = y0 at k0 hcall); (generalize hd1 : (rd_T45 l (kk : Int)).f1 = y1 at k1 hcall); (generalize hd2 : (rd_T45 l (kk : Int)).f2 = y2 at k2 hcall); (generalize hd3 : (rd_T45 l (kk : Int)).f3 = y3 at k3 hcall); (have HD := Lib.hid (And.intro hd0 (And.intro hd1 (And.intro hd2 hd3)))); (clear hd0 hd1 hd2 hd3)
      cases hq : q y0 y1 y2 y3 with
      | true =>
        (rw [hq] at hcall); (go_wp2_with fail); (refine hcall.mono ?_); (rintro e w' ⟨rfl, hb'⟩); (go_wp2); (go_ret); (exact ⟨_, rfl, .inr ⟨kk, rfl, hlt, by show q _ _ _ _ = true; rw [HD.out.1, HD.out.2.1, HD.out.2.2.1, HD.out.2.2.2]; exact hq, HA.out⟩, BW.out.trans (hb'.mono BW.out.size)⟩)
      | false =>
        (rw [hq] at hcall); (go_wp2_with fail); (refine hcall.mono ?_); (rintro e w' ⟨rfl, hb'⟩); (go_wp2); (go_roundg (n - (kk + 1)))
        case measure => omega
        case rel =>
          refine ⟨kk + 1, by omega, by omega, by go_num, Lib.hid (BW.out.trans (hb'.mono BW.out.size)), Lib.hid (fun j hj => ?_)⟩
          by_cases e : j = kk
          · subst e; show q _ _ _ _ = false; rw [HD.out.1, HD.out.2.1, HD.out.2.2.1, HD.out.2.2.2]; exact hq
          · exact HA.out j (by omega)
    · have hltz : ¬ (kk : Int) < (n : Int) := by omega
      (obtain rfl : kk = n := by omega); (go_wp2); (go_ret); (exact ⟨_, rfl, .inl ⟨rfl, HA.out⟩, BW.out⟩)
theorem rd_pair (l : List S45) (j : Nat) (hj : j < l.length) : rd_T45 l (j : Int) = l[j]'hj := by simp [rd_T45, List.getD_eq_getElem?_getD, hj]
set_option maxHeartbeats 2000000 in
theorem pairClo_calls (x0 : Int) (x1 : Int) (x2 : Int) (x3 : Bool) (r : Int) (b0 b1 : Nat) (W : World) (h0 : W.cell? ⟨b0, 0, none⟩ = some (.func (.func 49) #[] #[])) (h1 : W.cell? ⟨b1, 0, none⟩ = some (.int .i32 r)) :
    Calls Tryd.prog 84 (#[.agg #[.int .i32 x0, .int .i32 x1, .int .i32 x2, .bool x3]] ++ #[.pointer (some ⟨b0, 0, none⟩), .pointer (some ⟨b1, 0, none⟩)]) W fun e w' => e = .returned (.bool (x0 == r)) ∧ Below W.heap.size W w' := by
  have eo : ∀ args w, (callFunc 49 args).run Tryd.prog w = .ok (.enter 49 args) w := enters_of Tryd.func49 (by kernel_rfl) rfl
  have hcall := fun w => tables_ofPair.calls x0 x1 x2 x3 x0 x0 w rfl
  have l0 := World.block_lt_of_cell? _ _ h0
  have l1 := World.block_lt_of_cell? _ _ h1
  have hB : Below W.heap.size W (W.alloc (.cells #[.int .i32 x0, .int .i32 x1, .int .i32 x2, .bool x3] 45)) := (Below.refl _ W).alloc (Nat.le_refl _) _
  have HB := Lib.hid hB
  have H1 := Lib.hid h1
  have HL := Lib.hid (And.intro l0 l1)
  have hc0 : ∀ o, (W.alloc o).cell? ⟨b0, 0, none⟩ = some (.func (.func 49) #[] #[]) := fun o => (World.cell?_alloc_lt _ _ _ l0).trans h0
  clear hB l0 l1 h0 h1
  go_enter Tryd.func84, Tryd.ntmps84
  go_wp2_with fail
  refine (hcall _).mono ?_
  rintro e w1 ⟨rfl, hb1⟩
  have HB1 := Lib.hid (HB.out.trans (hb1.mono HB.out.size))
  have hc1 : w1.cell? ⟨b1, 0, none⟩ = some (.int .i32 r) := (HB1.out.cell HL.out.2).trans H1.out
  clear hb1 hcall hc0
  by_cases h1 : x0 ≤ r
  · by_cases h2 : r ≤ x0
    · obtain rfl : x0 = r := by omega
      (clear h1 h2); (go_wp2); (go_ret); (exact ⟨by simp, HB1.out⟩)
    · go_wp2
      (go_ret); (exact ⟨by show Ending.returned (Value.bool (decide (r ≤ x0))) = _; rw [decide_eq_false (by omega), beq_eq_false_iff_ne.2 (by omega)], HB1.out⟩)
  · go_wp2
    (go_ret); (exact ⟨by show Ending.returned (Value.bool false) = _; rw [beq_eq_false_iff_ne.2 (by omega)], HB1.out⟩)
theorem pair_hit (l : List S45) (r x : Int) (h : hitAt (fun j => (rd_T45 l j).f0 == r) l.length x) :
    (x = -1 ∧ l.find? (fun y => y.f0 == r) = none) ∨ ∃ (k : Nat) (hk : k < l.length), x = k ∧ l.find? (fun y => y.f0 == r) = some l[k] := by
  rcases h with ⟨rfl, h⟩ | ⟨k, rfl, hk, hq, h⟩
  · refine .inl ⟨rfl, List.find?_eq_none.2 (fun y hy => ?_)⟩
    (obtain ⟨j, hj, rfl⟩ := List.mem_iff_getElem.1 hy); (have := h j hj); (simp only [rd_pair l j hj] at this); (rw [this]; decide)
  · refine .inr ⟨k, hk, rfl, ?_⟩
    (rw [List.find?_eq_some_iff_getElem]); (simp only [rd_pair l k hk] at hq)
    refine ⟨hq, k, hk, rfl, fun j hj => ?_⟩
    (have := h j hj); (simp only [rd_pair l j (by omega)] at this); (rw [this]; rfl)
set_option maxHeartbeats 4000000 in
theorem pairFind_calls (A : Option Addr) (c : Nat) (l : List S45) (r : Int) (w : World) (hn : l.length ≤ 1073741824) (hC : Kd.C k45 w A l.length l) :
    Calls Tryd.prog 78 #[.slice A l.length c, .int .i32 r, .func (.func 49) #[] #[]] w fun e w' => (∀ x, l.find? (fun y => y.f0 == r) = some x → e = .returned (.tuple #[.agg #[.int .i32 x.f0, .int .i32 x.f1, .int .i32 x.f2, .bool x.f3], .bool true])) ∧ (l.find? (fun y => y.f0 == r) = none → e = .returned (.tuple #[.agg #[.int .i32 0, .int .i32 0, .int .i32 0, .bool false], .bool false])) ∧ Below w.heap.size w w' := by
  have HC := Lib.hid hC
  have hB3 : Below w.heap.size w (((w.alloc (.cells #[.int .i32 r] 21)).alloc (.cells #[.func (.func 49) #[] #[]] 78)).alloc (.cells #[.int .i32 0, .int .i32 0, .int .i32 0, .bool false] 45)) := (((Below.refl _ w).alloc (Nat.le_refl _) _).alloc (by simp) _).alloc (by simp; omega) _
  have HB3 := Lib.hid hB3
  obtain ⟨ha1, ha2, ha3, ha4⟩ := alloc3 w (.cells #[.int .i32 r] 21) (.cells #[.func (.func 49) #[] #[]] 78) (.cells #[.int .i32 0, .int .i32 0, .int .i32 0, .bool false] 45)
  have hw0 : (((w.alloc (.cells #[.int .i32 r] 21)).alloc (.cells #[.func (.func 49) #[] #[]] 78)).alloc (.cells #[.int .i32 0, .int .i32 0, .int .i32 0, .bool false] 45)).cell? ⟨w.heap.size, 0, none⟩ = some (.int .i32 r) := (Lib.cell_of_heap ha1 0).trans rfl
  have hw1 : (((w.alloc (.cells #[.int .i32 r] 21)).alloc (.cells #[.func (.func 49) #[] #[]] 78)).alloc (.cells #[.int .i32 0, .int .i32 0, .int .i32 0, .bool false] 45)).cell? ⟨w.heap.size + 1, 0, none⟩ = some (.func (.func 49) #[] #[]) := (Lib.cell_of_heap ha2 0).trans rfl
  have hidx := pairIdx_calls A c l (fun x0 x1 x2 x3 => x0 == r) 84 #[.pointer (some ⟨w.heap.size + 1, 0, none⟩), .pointer (some ⟨w.heap.size, 0, none⟩)] (enters_of Tryd.func84 (by kernel_rfl) rfl) _ (by omega) (Kd.C_below hC hB3)
    (fun W x0 x1 x2 x3 hW => pairClo_calls x0 x1 x2 x3 r (w.heap.size + 1) w.heap.size W ((hW.cell (World.block_lt_of_cell? _ _ hw1)).trans hw1) ((hW.cell (World.block_lt_of_cell? _ _ hw0)).trans hw0))
  have HA := Lib.hid (And.intro ha3 ha4)
  have HN := Lib.hid hn
  clear hw0 hw1 ha1 ha2 ha3 ha4 hC hn
  generalize hnl : l.length = m at *
  clear hB3
  go_enter Tryd.func78, Tryd.ntmps78
  go_wp2_with fail
  refine hidx.mono ?_
  rintro e w2 ⟨x, rfl, hr, hb2⟩
  rw [← hnl] at hr
  have hs := pair_hit l r x hr
  have HB2 := Lib.hid (HB3.out.trans (hb2.mono HB3.out.size))
  have HK := Lib.hid (show w2.heap[w.heap.size + 1 + 1]? = some (.cells #[.int .i32 0, .int .i32 0, .int .i32 0, .bool false] 45) from (hb2.block _ (by rw [HA.out.2]; omega)).trans HA.out.1)
  clear hidx hr hb2 HB3 HA
  have z0 : w2.cell? ⟨w.heap.size + 1 + 1, 0, none⟩ = some (.int .i32 0) := (Lib.cell_of_heap HK.out 0).trans rfl
  have zf0 : w2.frozen? ⟨w.heap.size + 1 + 1, 0, none⟩ = false := Lib.frozen_of_heap HK.out 0
  have za0 : ∀ o, (w2.alloc o).cell? ⟨w.heap.size + 1 + 1, 0, none⟩ = some (.int .i32 0) := fun o => (World.cell?_alloc_lt _ _ _ (World.block_lt_of_cell? _ _ z0)).trans z0
  have zg0 : ∀ o, (w2.alloc o).frozen? ⟨w.heap.size + 1 + 1, 0, none⟩ = false := fun o => Lib.frozen_of_heap ((Below.heap_alloc w2 o _ (World.block_lt_of_cell? _ _ z0)).trans HK.out) 0
  have z1 : w2.cell? ⟨w.heap.size + 1 + 1, 1, none⟩ = some (.int .i32 0) := (Lib.cell_of_heap HK.out 1).trans rfl
  have zf1 : w2.frozen? ⟨w.heap.size + 1 + 1, 1, none⟩ = false := Lib.frozen_of_heap HK.out 1
  have za1 : ∀ o, (w2.alloc o).cell? ⟨w.heap.size + 1 + 1, 1, none⟩ = some (.int .i32 0) := fun o => (World.cell?_alloc_lt _ _ _ (World.block_lt_of_cell? _ _ z1)).trans z1
  have zg1 : ∀ o, (w2.alloc o).frozen? ⟨w.heap.size + 1 + 1, 1, none⟩ = false := fun o => Lib.frozen_of_heap ((Below.heap_alloc w2 o _ (World.block_lt_of_cell? _ _ z1)).trans HK.out) 1
  have z2 : w2.cell? ⟨w.heap.size + 1 + 1, 2, none⟩ = some (.int .i32 0) := (Lib.cell_of_heap HK.out 2).trans rfl
  have zf2 : w2.frozen? ⟨w.heap.size + 1 + 1, 2, none⟩ = false := Lib.frozen_of_heap HK.out 2
  have za2 : ∀ o, (w2.alloc o).cell? ⟨w.heap.size + 1 + 1, 2, none⟩ = some (.int .i32 0) := fun o => (World.cell?_alloc_lt _ _ _ (World.block_lt_of_cell? _ _ z2)).trans z2
  have zg2 : ∀ o, (w2.alloc o).frozen? ⟨w.heap.size + 1 + 1, 2, none⟩ = false := fun o => Lib.frozen_of_heap ((Below.heap_alloc w2 o _ (World.block_lt_of_cell? _ _ z2)).trans HK.out) 2
  have z3 : w2.cell? ⟨w.heap.size + 1 + 1, 3, none⟩ = some (.bool false) := (Lib.cell_of_heap HK.out 3).trans rfl
  have zf3 : w2.frozen? ⟨w.heap.size + 1 + 1, 3, none⟩ = false := Lib.frozen_of_heap HK.out 3
  have za3 : ∀ o, (w2.alloc o).cell? ⟨w.heap.size + 1 + 1, 3, none⟩ = some (.bool false) := fun o => (World.cell?_alloc_lt _ _ _ (World.block_lt_of_cell? _ _ z3)).trans z3
  have zg3 : ∀ o, (w2.alloc o).frozen? ⟨w.heap.size + 1 + 1, 3, none⟩ = false := fun o => Lib.frozen_of_heap ((Below.heap_alloc w2 o _ (World.block_lt_of_cell? _ _ z3)).trans HK.out) 3
  rcases hs with ⟨rfl, hno⟩ | ⟨k, hk, rfl, hsome⟩
  · have HF := Lib.hid hno
    (clear hno); (have hk := (Below.heap_alloc w2 (.cells #[.int .i32 0, .int .i32 0, .int .i32 0, .bool false] 45) _ (World.block_lt_of_cell? _ _ z0)).trans HK.out); (have HK2 := Lib.hid hk); (clear hk); (go_wp2); (have h0 := blk_put (cs' := #[.int .i32 0, .int .i32 0, .int .i32 0, .bool false]) HK2.out 0 (.int .i32 0) rfl); (have h1 := blk_put (cs' := #[.int .i32 0, .int .i32 0, .int .i32 0, .bool false]) h0 1 (.int .i32 0) rfl); (have h2 := blk_put (cs' := #[.int .i32 0, .int .i32 0, .int .i32 0, .bool false]) h1 2 (.int .i32 0) rfl); (have h3 := blk_put (cs' := #[.int .i32 0, .int .i32 0, .int .i32 0, .bool false]) h2 3 (.bool false) rfl)
    refine bodyPost_ret (results_ct (P := Tryd.prog) (fn := Tryd.f78) rfl _ _ (w.heap.size + 1 + 1) 45 _ (0, 0) _ rfl h3 Tryd.underlying45 rfl (by kernel_rfl)) rfl ⟨fun x hx => ?_, fun hx => rfl, ?_⟩
    · rw [HF.out] at hx; cases hx
    · exact below_set (below_set (below_set (below_set (((HB2.out).alloc HB2.out.size _)) (by omega)) (by omega)) (by omega)) (by omega)
  · have HF := Lib.hid hsome
    (obtain ⟨ad, rfl, k0, k1, k2, k3⟩ := at_T45 (Kd.C_below HC.out HB2.out) (k : Int) (by omega) (by omega)); (rw [Int.toNat_natCast, rd_pair l k hk] at k0 k1 k2 k3); (generalize l[k] = y at *); (have hkm : k < m := by omega); (clear hk hsome); (go_wp2); (have h0 := blk_put (cs' := #[.int .i32 y.f0, .int .i32 0, .int .i32 0, .bool false]) HK.out 0 (.int .i32 y.f0) rfl); (have h1 := blk_put (cs' := #[.int .i32 y.f0, .int .i32 y.f1, .int .i32 0, .bool false]) h0 1 (.int .i32 y.f1) rfl); (have h2 := blk_put (cs' := #[.int .i32 y.f0, .int .i32 y.f1, .int .i32 y.f2, .bool false]) h1 2 (.int .i32 y.f2) rfl); (have h3 := blk_put (cs' := #[.int .i32 y.f0, .int .i32 y.f1, .int .i32 y.f2, .bool y.f3]) h2 3 (.bool y.f3) rfl)
    refine bodyPost_ret (results_ct (P := Tryd.prog) (fn := Tryd.f78) rfl _ _ (w.heap.size + 1 + 1) 45 _ (0, 0) _ rfl h3 Tryd.underlying45 rfl (by kernel_rfl)) rfl ⟨fun x hx => ?_, fun hx => ?_, ?_⟩
    · rw [HF.out] at hx
      (obtain rfl := Option.some.inj hx); (rfl)
    · rw [HF.out] at hx; cases hx
    · exact below_set (below_set (below_set (below_set (HB2.out) (by omega)) (by omega)) (by omega)) (by omega)
end Go.Proofs.YtmjnipifpeehgaaDoor.Q
