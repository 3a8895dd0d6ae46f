/- tables.Class, tables.Pair: what a table says of a rune. -/
import Derived.Test.YtmjnipifpeehgaaDoorSNCls
import Derived.Test.YtmjnipifpeehgaaDoorSNPair
set_option linter.unusedSimpArgs false
set_option linter.unusedVariables false
namespace Go.Proofs.YtmjnipifpeehgaaDoor.Q
open Go.RowKit Go.Proofs.YtmjnipifpeehgaaDoorW.PrintWords Go.Proofs.YtmjnipifpeehgaaDoorW.PrintLast Go.Proofs.YtmjnipifpeehgaaDoorW.PrintMore
theorem alloc2N (w : World) (o1 o2 : Obj) : ((w.alloc o1).alloc o2).heap[w.heap.size + 1]? = some o2 ∧ ((w.alloc o1).alloc o2).heap.size = w.heap.size + 2 := by
  have h : ((w.alloc o1).alloc o2).heap = (w.heap.push o1).push o2 := rfl
  rw [h]
  refine ⟨?_, ?_⟩
  · rw [Array.getElem?_push, if_pos (by simp)]
  · simp
/-- a rune's class -/
def clsOf (l : List S43) (r : Int) : Int := match l.find? (fun y => y.f0 == r) with | some x => x.f1 | none => 0
set_option maxHeartbeats 4000000 in
theorem class_any (s0 s2 s3 s4 : Value) (A : Option Addr) (c : Nat) (l : List S43) (r : Int) (w : World) (hn : l.length ≤ 1073741824) (hC : Kd.C k43 w A l.length l) :
    Calls Tryd.prog 11 #[.agg #[s0, .slice A l.length c, s2, s3, s4], .int .i32 r] w fun e w' => e = .returned (.int .u8 (clsOf l r)) ∧ Below w.heap.size w w' := by
  have hB1 : Below w.heap.size w (w.alloc (.cells #[s0, .slice A l.length c, s2, s3, s4] 28)) := (Below.refl _ w).alloc (Nat.le_refl _) _
  have hfind := clsFind_calls A c l r _ hn (Kd.C_below hC hB1)
  have HB1 := Lib.hid hB1
  have HL := Lib.hid (show l.find? (fun y => y.f0 == r) = none ∨ ∃ x, l.find? (fun y => y.f0 == r) = some x from by cases l.find? (fun y => y.f0 == r) with | none => exact .inl rfl | some x => exact .inr ⟨x, rfl⟩)
  clear hC hB1 hn
  generalize l.length = m at *
  go_enter Tryd.func11, Tryd.ntmps11
  go_wp2_with fail
  refine hfind.mono ?_
  rintro e w2 ⟨h1, h2, hb2⟩
  have HB2 := Lib.hid (HB1.out.trans (hb2.mono HB1.out.size))
  clear hfind hb2 HB1
  rcases HL.out with hno | ⟨x, hx⟩
  · obtain rfl := h2 hno
    (have HF := Lib.hid hno); (clear h1 h2 hno); (go_wp2); (go_ret); (exact ⟨by show Ending.returned (Value.int IntKind.u8 0) = _; unfold clsOf; rw [HF.out], HB2.out.alloc HB2.out.size _⟩)
  · obtain rfl := h1 x hx
    (have HF := Lib.hid hx); (clear h1 h2 hx); (go_wp2); (go_ret); (exact ⟨by show Ending.returned (Value.int IntKind.u8 x.f1) = _; unfold clsOf; rw [HF.out], HB2.out.alloc HB2.out.size _⟩)
/-- what a rune is taken apart into -/
def pairOf (l : List S45) (r : Int) : Option S45 := l.find? (fun y => y.f0 == r)
set_option maxHeartbeats 4000000 in
theorem pair_any (s0 s1 s3 s4 : Value) (A : Option Addr) (c : Nat) (l : List S45) (r : Int) (w : World) (hn : l.length ≤ 1073741824) (hC : Kd.C k45 w A l.length l) :
    Calls Tryd.prog 59 #[.agg #[s0, s1, .slice A l.length c, s3, s4], .int .i32 r] w fun e w' => (∀ x, pairOf l r = some x → e = .returned (.tuple #[.agg #[.int .i32 x.f0, .int .i32 x.f1, .int .i32 x.f2, .bool x.f3], .bool true])) ∧ (pairOf l r = none → e = .returned (.tuple #[.agg #[.int .i32 0, .int .i32 0, .int .i32 0, .bool false], .bool false])) ∧ Below w.heap.size w w' := by
  have hB1 : Below w.heap.size w ((w.alloc (.cells #[s0, s1, .slice A l.length c, s3, s4] 28)).alloc (.cells #[.int .i32 0, .int .i32 0, .int .i32 0, .bool false] 45)) := ((Below.refl _ w).alloc (Nat.le_refl _) _).alloc (by simp) _
  have hfind := pairFind_calls A c l r _ hn (Kd.C_below hC hB1)
  have ha := (alloc2N w (.cells #[s0, s1, .slice A l.length c, s3, s4] 28) (.cells #[.int .i32 0, .int .i32 0, .int .i32 0, .bool false] 45))
  have HB1 := Lib.hid hB1
  have HA := Lib.hid ha
  have HL := Lib.hid (show pairOf l r = none ∨ ∃ x, pairOf l r = some x from by cases pairOf l r with | none => exact .inl rfl | some x => exact .inr ⟨x, rfl⟩)
  clear hC hB1 hn ha
  generalize l.length = m at *
  go_enter Tryd.func59, Tryd.ntmps59
  go_wp2_with fail
  refine hfind.mono ?_
  rintro e w2 ⟨h1, h2, hb2⟩
  have HB2 := Lib.hid (HB1.out.trans (hb2.mono HB1.out.size))
  have hk : w2.heap[w.heap.size + 1]? = some (.cells #[.int .i32 0, .int .i32 0, .int .i32 0, .bool false] 45 (0, 0)) := (hb2.block _ (by rw [HA.out.2]; omega)).trans HA.out.1
  have z0 : w2.cell? ⟨w.heap.size + 1, 0, none⟩ = some (.int .i32 0) := (Lib.cell_of_heap hk 0).trans rfl
  have z1 : w2.cell? ⟨w.heap.size + 1, 1, none⟩ = some (.int .i32 0) := (Lib.cell_of_heap hk 1).trans rfl
  have z2 : w2.cell? ⟨w.heap.size + 1, 2, none⟩ = some (.int .i32 0) := (Lib.cell_of_heap hk 2).trans rfl
  have z3 : w2.cell? ⟨w.heap.size + 1, 3, none⟩ = some (.bool false) := (Lib.cell_of_heap hk 3).trans rfl
  have y0 := Lib.frozen_of_heap hk 0
  have y1 := Lib.frozen_of_heap hk 1
  have y2 := Lib.frozen_of_heap hk 2
  have y3 := Lib.frozen_of_heap hk 3
  have HK := Lib.hid hk
  clear hfind hb2 HB1 HA hk
  rcases HL.out with hno | ⟨x, hx⟩
  · obtain rfl := h2 hno
    (have HF := Lib.hid hno); (clear h1 h2 hno); (go_wp2); (have h0 := blk_put (cs' := #[.int .i32 0, .int .i32 0, .int .i32 0, .bool false]) HK.out 0 (.int .i32 0) rfl); (have h1 := blk_put (cs' := #[.int .i32 0, .int .i32 0, .int .i32 0, .bool false]) h0 1 (.int .i32 0) rfl); (have h2 := blk_put (cs' := #[.int .i32 0, .int .i32 0, .int .i32 0, .bool false]) h1 2 (.int .i32 0) rfl); (have h3 := blk_put (cs' := #[.int .i32 0, .int .i32 0, .int .i32 0, .bool false]) h2 3 (.bool false) rfl)
    refine bodyPost_ret (results_ct (P := Tryd.prog) (fn := Tryd.f59) rfl _ _ (w.heap.size + 1) 45 _ (0, 0) _ rfl h3 Tryd.underlying45 rfl (by kernel_rfl)) rfl ⟨fun x hx => ?_, fun hx => rfl, ?_⟩
    · rw [HF.out] at hx; cases hx
    · exact below_set (below_set (below_set (below_set HB2.out (by omega)) (by omega)) (by omega)) (by omega)
  · obtain rfl := h1 x hx
    (have HF := Lib.hid hx); (clear h1 h2 hx); (go_wp2); (have h0 := blk_put (cs' := #[.int .i32 x.f0, .int .i32 0, .int .i32 0, .bool false]) HK.out 0 (.int .i32 x.f0) rfl); (have h1 := blk_put (cs' := #[.int .i32 x.f0, .int .i32 x.f1, .int .i32 0, .bool false]) h0 1 (.int .i32 x.f1) rfl); (have h2 := blk_put (cs' := #[.int .i32 x.f0, .int .i32 x.f1, .int .i32 x.f2, .bool false]) h1 2 (.int .i32 x.f2) rfl); (have h3 := blk_put (cs' := #[.int .i32 x.f0, .int .i32 x.f1, .int .i32 x.f2, .bool x.f3]) h2 3 (.bool x.f3) rfl)
    refine bodyPost_ret (results_ct (P := Tryd.prog) (fn := Tryd.f59) rfl _ _ (w.heap.size + 1) 45 _ (0, 0) _ rfl h3 Tryd.underlying45 rfl (by kernel_rfl)) rfl ⟨fun z hz => ?_, fun hz => ?_, ?_⟩
    · rw [HF.out] at hz
      (obtain rfl := Option.some.inj hz); (rfl)
    · rw [HF.out] at hz; cases hz
    · exact below_set (below_set (below_set (below_set HB2.out (by omega)) (by omega)) (by omega)) (by omega)
/-- what two are together -/
def isPut (a b : Int) (x1 x2 : Int) (x3 : Bool) : Bool := !x3 && (x1 == a && x2 == b)
set_option maxHeartbeats 4000000 in
theorem putClo_calls (x0 x1 x2 : Int) (x3 : Bool) (a b : Int) (b1 b2 : Nat) (W : World) (h1 : W.cell? ⟨b1, 0, none⟩ = some (.int .i32 a)) (h2 : W.cell? ⟨b2, 0, none⟩ = some (.int .i32 b)) :
    Calls Tryd.prog 80 (#[.agg #[.int .i32 x0, .int .i32 x1, .int .i32 x2, .bool x3]] ++ #[.pointer (some ⟨b1, 0, none⟩), .pointer (some ⟨b2, 0, none⟩)]) W fun e w' => e = .returned (.bool (isPut a b x1 x2 x3)) ∧ Below W.heap.size W w' := by
  have l1 := World.block_lt_of_cell? _ _ h1
  have l2 := World.block_lt_of_cell? _ _ h2
  have hc1 : ∀ o, (W.alloc o).cell? ⟨b1, 0, none⟩ = some (.int .i32 a) := fun o => (World.cell?_alloc_lt _ _ _ l1).trans h1
  have hc2 : ∀ o, (W.alloc o).cell? ⟨b2, 0, none⟩ = some (.int .i32 b) := fun o => (World.cell?_alloc_lt _ _ _ l2).trans h2
  have HB := Lib.hid (show Below W.heap.size W (W.alloc (.cells #[.int .i32 x0, .int .i32 x1, .int .i32 x2, .bool x3] 45)) from (Below.refl _ W).alloc (Nat.le_refl _) _)
  clear l1 l2 h1 h2
  cases x3 with
  | true =>
    (go_enter Tryd.func80, Tryd.ntmps80); (go_wp2); (go_ret); (exact ⟨rfl, HB.out⟩)
  | false =>
    by_cases ha : x1 = a
    · subst ha
      by_cases hb : x2 = b
      · subst hb
        (have HE := Lib.hid (show isPut x1 x2 x1 x2 false = true from by unfold isPut; simp)); (go_enter Tryd.func80, Tryd.ntmps80); (go_wp2); (go_ret); (exact ⟨by show Ending.returned (Value.bool true) = _; rw [HE.out], HB.out⟩)
      · have e2 : (x2 == b) = false := beq_eq_false_iff_ne.2 hb
        (have HE := Lib.hid (show isPut x1 b x1 x2 false = false from by unfold isPut; rw [e2]; simp)); (go_enter Tryd.func80, Tryd.ntmps80); (go_wp2); (go_ret); (exact ⟨by show Ending.returned (Value.bool false) = _; rw [HE.out], HB.out⟩)
    · have e1 : (x1 == a) = false := beq_eq_false_iff_ne.2 ha
      (have HE := Lib.hid (show isPut a b x1 x2 false = false from by unfold isPut; rw [e1]; simp)); (go_enter Tryd.func80, Tryd.ntmps80); (go_wp2); (go_ret); (exact ⟨by show Ending.returned (Value.bool false) = _; rw [HE.out], HB.out⟩)
def putOf (l : List S45) (a b : Int) : Option Int := if b = 0 then none else (l.find? (fun y => isPut a b y.f1 y.f2 y.f3)).map (fun y => y.f0)
theorem put_hit (l : List S45) (a b x : Int) (h : hitAt (fun j => isPut a b (rd_T45 l j).f1 (rd_T45 l j).f2 (rd_T45 l j).f3) l.length x) :
    (x = -1 ∧ l.find? (fun y => isPut a b y.f1 y.f2 y.f3) = none) ∨ ∃ (k : Nat) (hk : k < l.length), x = k ∧ l.find? (fun y => isPut a b y.f1 y.f2 y.f3) = some l[k] := by
  rcases h with ⟨rfl, h⟩ | ⟨k, rfl, hk, hq, h⟩
  · refine .inl ⟨rfl, List.find?_eq_none.2 (fun y hy => ?_)⟩
    (obtain ⟨j, hj, rfl⟩ := List.mem_iff_getElem.1 hy); (have := h j hj); (simp only [rd_pair l j hj] at this); (rw [this]; decide)
  · refine .inr ⟨k, hk, rfl, ?_⟩
    (rw [List.find?_eq_some_iff_getElem]); (simp only [rd_pair l k hk] at hq)
    refine ⟨hq, k, hk, rfl, fun j hj => ?_⟩
    (have := h j hj); (simp only [rd_pair l j (by omega)] at this); (rw [this]; rfl)
set_option maxHeartbeats 4000000 in
theorem put_any (s0 s1 s3 s4 : Value) (A : Option Addr) (c : Nat) (l : List S45) (a b : Int) (w : World) (hn : l.length ≤ 1073741824) (hC : Kd.C k45 w A l.length l) :
    Calls Tryd.prog 60 #[.agg #[s0, s1, .slice A l.length c, s3, s4], .int .i32 a, .int .i32 b] w fun e w' => e = .returned (.tuple #[.int .i32 ((putOf l a b).getD 0), .bool (putOf l a b).isSome]) ∧ Below w.heap.size w w' := by
  have hB1 : Below w.heap.size w (((w.alloc (.cells #[s0, s1, .slice A l.length c, s3, s4] 28)).alloc (.cells #[.int .i32 a] 21)).alloc (.cells #[.int .i32 b] 21)) := (((Below.refl _ w).alloc (Nat.le_refl _) _).alloc (by simp) _).alloc (by simp; omega) _
  obtain ⟨ha1, ha2, ha3, ha4⟩ := alloc3 w (.cells #[s0, s1, .slice A l.length c, s3, s4] 28) (.cells #[.int .i32 a] 21) (.cells #[.int .i32 b] 21)
  have hw1 : (((w.alloc (.cells #[s0, s1, .slice A l.length c, s3, s4] 28)).alloc (.cells #[.int .i32 a] 21)).alloc (.cells #[.int .i32 b] 21)).cell? ⟨w.heap.size + 1, 0, none⟩ = some (.int .i32 a) := (Lib.cell_of_heap ha2 0).trans rfl
  have hw2 : (((w.alloc (.cells #[s0, s1, .slice A l.length c, s3, s4] 28)).alloc (.cells #[.int .i32 a] 21)).alloc (.cells #[.int .i32 b] 21)).cell? ⟨w.heap.size + 1 + 1, 0, none⟩ = some (.int .i32 b) := (Lib.cell_of_heap ha3 0).trans rfl
  have hidx := pairIdx_calls A c l (fun x0 x1 x2 x3 => isPut a b x1 x2 x3) 80 #[.pointer (some ⟨w.heap.size + 1, 0, none⟩), .pointer (some ⟨w.heap.size + 1 + 1, 0, none⟩)] (enters_of Tryd.func80 (by kernel_rfl) rfl) _ (by omega) (Kd.C_below hC hB1)
    (fun W x0 x1 x2 x3 hW => putClo_calls x0 x1 x2 x3 a b (w.heap.size + 1) (w.heap.size + 1 + 1) W ((hW.cell (World.block_lt_of_cell? _ _ hw1)).trans hw1) ((hW.cell (World.block_lt_of_cell? _ _ hw2)).trans hw2))
  have HA := Lib.hid (show _ ∧ _ ∧ _ from ⟨ha1, ha4, World.block_lt_of_cell? _ _ hw2⟩)
  have HW2 := Lib.hid hw2
  have HB1 := Lib.hid hB1
  have HC := Lib.hid hC
  have HN := Lib.hid hn
  clear hC hB1 hn hw1 hw2 ha1 ha2 ha3 ha4
  generalize hnl : l.length = m at *
  go_enter Tryd.func60, Tryd.ntmps60
  go_wp2_with fail
  refine hidx.mono ?_
  rintro e w2 ⟨x, rfl, hr, hb2⟩
  rw [← hnl] at hr
  have hs := put_hit l a b x hr
  have HB2 := Lib.hid (HB1.out.trans (hb2.mono HB1.out.size))
  have hz : w2.cell? ⟨w.heap.size + 1 + 1, 0, none⟩ = some (.int .i32 b) := (hb2.cell HA.out.2.2).trans HW2.out
  have ht : w2.heap[w.heap.size]? = some (.cells #[s0, s1, .slice A m c, s3, s4] 28 (0, 0)) := (hb2.block _ (by rw [HA.out.2.1]; omega)).trans HA.out.1
  have ht2 : w2.cell? ⟨w.heap.size, 2, none⟩ = some (.slice A m c) := (Lib.cell_of_heap ht 2).trans rfl
  clear hidx hr hb2 HB1 HA HW2 ht
  rcases hs with ⟨rfl, hno⟩ | ⟨k, hk, rfl, hsome⟩
  · have HF := Lib.hid (show putOf l a b = none from by unfold putOf; rw [hno]; split <;> rfl)
    (clear hno); (go_wp2); (go_ret2); (exact ⟨by rw [HF.out]; rfl, HB2.out⟩)
  · by_cases hb0 : b = 0
    · have HF := Lib.hid (show putOf l a b = none from by unfold putOf; rw [if_pos hb0])
      (have hbb : (b == 0) = true := by rw [hb0]; rfl); (have hkz : ¬ (k : Int) < 0 := by omega); (clear hsome hb0); (go_wp2); (go_ret2); (exact ⟨by rw [HF.out]; rfl, HB2.out⟩)
    · have hbb : (b == 0) = false := beq_eq_false_iff_ne.2 hb0
      (have hkz : ¬ (k : Int) < 0 := by omega); (have HF := Lib.hid (show putOf l a b = some l[k].f0 from by unfold putOf; rw [if_neg hb0, hsome]; rfl)); (obtain ⟨ad, rfl, k0, k1, k2, k3⟩ := at_T45 (Kd.C_below HC.out HB2.out) (k : Int) (by omega) (by omega)); (rw [Int.toNat_natCast, rd_pair l k hk] at k0 k1 k2 k3); (generalize l[k] = y at *); (have hkm : k < m := by omega); (clear hk hsome hb0); (go_wp2); (go_ret2); (exact ⟨by rw [HF.out]; rfl, HB2.out⟩)
def tables_Class.f (l0_0 : List (S71)) (l0_1 : List (S43)) (l0_2 : List (S45)) (l0_3 : List (S85)) (l0_4 : List (S91)) (a1 : Int) : Option Int := if l0_1.length ≤ 1073741824 then some (clsOf l0_1 a1) else none
theorem tables_Class.calls (A0_0 : Option Addr) (c0_0 : Nat) (l0_0 : List (S71)) (A0_1 : Option Addr) (c0_1 : Nat) (l0_1 : List (S43)) (A0_2 : Option Addr) (c0_2 : Nat) (l0_2 : List (S45)) (A0_3 : Option Addr) (c0_3 : Nat) (l0_3 : List (S85)) (A0_4 : Option Addr) (c0_4 : Nat) (l0_4 : List (S91)) (a1 : Int) (r : Int) (w : World) (hr0_0 : Kd.C k71 w A0_0 l0_0.length l0_0) (hc0_0 : l0_0.length ≤ c0_0) (hr0_1 : Kd.C k43 w A0_1 l0_1.length l0_1) (hc0_1 : l0_1.length ≤ c0_1) (hr0_2 : Kd.C k45 w A0_2 l0_2.length l0_2) (hc0_2 : l0_2.length ≤ c0_2) (hr0_3 : Kd.C k85 w A0_3 l0_3.length l0_3) (hc0_3 : l0_3.length ≤ c0_3) (hr0_4 : Kd.C k91 w A0_4 l0_4.length l0_4) (hc0_4 : l0_4.length ≤ c0_4) (h : tables_Class.f l0_0 l0_1 l0_2 l0_3 l0_4 a1 = some r) :
    Calls Tryd.prog 11 #[.agg #[.slice A0_0 l0_0.length c0_0, .slice A0_1 l0_1.length c0_1, .slice A0_2 l0_2.length c0_2, .slice A0_3 l0_3.length c0_3, .slice A0_4 l0_4.length c0_4], .int .i32 a1] w fun e w' => e = .returned (.int .u8 r) ∧ Below w.heap.size w w' := by
  unfold tables_Class.f at h
  split at h
  · rename_i hs
    (obtain rfl := Option.some.inj h); (exact class_any _ _ _ _ A0_1 c0_1 l0_1 a1 w hs hr0_1)
  · cases h
def tables_Put.f (l0_0 : List (S71)) (l0_1 : List (S43)) (l0_2 : List (S45)) (l0_3 : List (S85)) (l0_4 : List (S91)) (a1 a2 : Int) : Option (Int × Bool) := if l0_2.length ≤ 1073741824 then some ((putOf l0_2 a1 a2).getD 0, (putOf l0_2 a1 a2).isSome) else none
theorem tables_Put.calls (A0_0 : Option Addr) (c0_0 : Nat) (l0_0 : List (S71)) (A0_1 : Option Addr) (c0_1 : Nat) (l0_1 : List (S43)) (A0_2 : Option Addr) (c0_2 : Nat) (l0_2 : List (S45)) (A0_3 : Option Addr) (c0_3 : Nat) (l0_3 : List (S85)) (A0_4 : Option Addr) (c0_4 : Nat) (l0_4 : List (S91)) (a1 : Int) (a2 : Int) (r1 : Int) (r2 : Bool) (w : World) (hr0_0 : Kd.C k71 w A0_0 l0_0.length l0_0) (hc0_0 : l0_0.length ≤ c0_0) (hr0_1 : Kd.C k43 w A0_1 l0_1.length l0_1) (hc0_1 : l0_1.length ≤ c0_1) (hr0_2 : Kd.C k45 w A0_2 l0_2.length l0_2) (hc0_2 : l0_2.length ≤ c0_2) (hr0_3 : Kd.C k85 w A0_3 l0_3.length l0_3) (hc0_3 : l0_3.length ≤ c0_3) (hr0_4 : Kd.C k91 w A0_4 l0_4.length l0_4) (hc0_4 : l0_4.length ≤ c0_4) (h : tables_Put.f l0_0 l0_1 l0_2 l0_3 l0_4 a1 a2 = some (r1, r2)) :
    Calls Tryd.prog 60 #[.agg #[.slice A0_0 l0_0.length c0_0, .slice A0_1 l0_1.length c0_1, .slice A0_2 l0_2.length c0_2, .slice A0_3 l0_3.length c0_3, .slice A0_4 l0_4.length c0_4], .int .i32 a1, .int .i32 a2] w fun e w' => e = .returned (.tuple #[.int .i32 r1, .bool r2]) ∧ Below w.heap.size w w' := by
  unfold tables_Put.f at h
  split at h
  · rename_i hs
    (have e := Option.some.inj h); (simp only [Prod.mk.injEq] at e); (obtain ⟨rfl, rfl⟩ := e); (exact put_any _ _ _ _ A0_2 c0_2 l0_2 a1 a2 w hs hr0_2)
  · cases h
end Go.Proofs.YtmjnipifpeehgaaDoor.Q
