/- tables.Check: why a table is not right. -/
import Derived.Test.YtmjnipifpeehgaaDoorSNFc3
import Derived.Test.YtmjnipifpeehgaaDoorSNRtClass
import Derived.Test.YtmjnipifpeehgaaDoorSNRtWays
import Derived.Test.YtmjnipifpeehgaaDoorSNRtJoins
import Derived.ChangeAlike
import Derived.Maps.RangeRun
set_option linter.unusedSimpArgs false
set_option linter.unusedVariables false
namespace Go.Proofs.YtmjnipifpeehgaaDoor.Q
open Go.RowKit Go.Proofs.YtmjnipifpeehgaaDoorW.PrintWords Go.Proofs.YtmjnipifpeehgaaDoorW.PrintLast Go.Proofs.YtmjnipifpeehgaaDoorW.PrintMore Go.Maps Go.MapKept
theorem max_five (ats : Array TypeId) (ty : TypeId) (a b c d e : Value) : Builtin.max_ ats ty #[a, b, c, d, e] = (Builtin.max2 a b >>= fun s => Builtin.max2 s c >>= fun s => Builtin.max2 s d >>= fun s => Builtin.max2 s e >>= fun s => pure s) := by simp only [Builtin.max_, List.foldlM_cons, List.foldlM_nil]
def mx (x y : Int) : Int := if x < y then y else x
theorem mx_le (x y m : Int) : mx x y ≤ m ↔ x ≤ m ∧ y ≤ m := by unfold mx; split <;> omega
theorem run_max5 (ats : Array TypeId) (ty : TypeId) (a b c d e : Int) (W : World) : (Builtin.max_ ats ty #[.int .i64 a, .int .i64 b, .int .i64 c, .int .i64 d, .int .i64 e]).run Tryd.prog W = .ok (.int .i64 (mx (mx (mx (mx a b) c) d) e)) W := by
  rw [max_five]
  simp only [max2_int, pure_bind]
  rfl
def clsFine (x : S43) : Bool := decide (1 ≤ x.f1) && decide (x.f1 ≤ 254)
def waysFine (x : S85) : Bool := !(x.f2 == 0) && decide (x.f2 < 12)
def joinsFine (x : S91) : Bool := !(x.f2 == 0) && decide (x.f2 < 5)
def onceP (l : List S45) : Bool := l.all fun x => x.f3 || cntP l x.f1 x.f2 == 1
def okSpans (l : List S71) : Bool := rightG (fun x => x.f0) (fun x => x.f1) spanFine (-1) l
def okClasses (l : List S43) : Bool := rightG (fun x => x.f0) (fun x => x.f0) clsFine (-1) l
def okPairs (l : List S45) : Bool := rightG (fun x => x.f0) (fun x => x.f0) pairFine (-1) l
def okWays (l : List S85) : Bool := rightG (fun x => x.f0) (fun x => x.f1) waysFine (-1) l
def okJoins (l : List S91) : Bool := rightG (fun x => x.f0) (fun x => x.f1) joinsFine (-1) l
def tabOk (l0 : List S71) (l1 : List S43) (l2 : List S45) (l3 : List S85) (l4 : List S91) : Bool :=
  ((((okSpans l0 && okClasses l1) && okPairs l2) && okWays l3) && okJoins l4) && onceP l2
def chk (l0 : List S71) (l1 : List S43) (l2 : List S45) (l3 : List S85) (l4 : List S91) : Int :=
  if l0.length ≤ 1024 ∧ l1.length ≤ 1024 ∧ l2.length ≤ 1024 ∧ l3.length ≤ 1024 ∧ l4.length ≤ 1024 then (if tabOk l0 l1 l2 l3 l4 then 0 else 2) else 3
theorem cls_f (a b : Int) : tables_Check_2.f a b = some (decide (1 ≤ b) && decide (b ≤ 254)) := by
  unfold tables_Check_2.f
  split
  · rename_i h; rw [decide_eq_true (show 1 ≤ b from h)]; rfl
  · rename_i h; rw [decide_eq_false (show ¬ 1 ≤ b from h)]; rfl
theorem ways_f (a b c : Int) : tables_Check_4.f a b c = some (!(c == 0) && decide (c < 12)) := by
  unfold tables_Check_4.f
  split
  · rename_i h; rw [h]; rfl
  · rename_i h; rw [beq_eq_false_iff_ne.2 h]; rfl
theorem joins_f (a b c : Int) : tables_Check_5.f a b c = some (!(c == 0) && decide (c < 5)) := by
  unfold tables_Check_5.f
  split
  · rename_i h; rw [h]; rfl
  · rename_i h; rw [beq_eq_false_iff_ne.2 h]; rfl
/-- the counts are all one just if no two pairs lead to one -/
theorem once_iff {B : Nat} {W : World} {l : List S45} {es : Array MapEntry} {clock : Nat} (h : MapI B W l) (hB : W.heap[B]? = some (.map es clock)) : (∀ e ∈ es.toList, e.val = .int .i64 1) ↔ onceP l = true := by
  obtain ⟨es', clock', h1, h2, h3, h4⟩ := h
  rw [hB] at h1
  cases h1
  unfold onceP
  rw [List.all_eq_true]
  refine ⟨fun hall x hx => ?_, fun hall e he => ?_⟩
  · cases ho : x.f3 with
    | true => rfl
    | false =>
      (have hp : 0 < cntP l x.f1 x.f2 := List.countP_pos_iff.2 ⟨x, hx, by rw [ho]; simp⟩); (obtain ⟨e, he, hk⟩ := h4 _ _ hp); (obtain ⟨a, b, k1, _, _, k4, _⟩ := h3 e he); (obtain ⟨rfl, rfl⟩ := keyV_inj (hk.symm.trans k1)); (have := hall e he); (rw [k4] at this); (simp at this); (simp); (omega)
  · obtain ⟨a, b, k1, _, _, k4, k5⟩ := h3 e he
    (obtain ⟨x, hx, hp⟩ := List.countP_pos_iff.1 k5); (simp only [Bool.and_eq_true, Bool.not_eq_true', beq_iff_eq] at hp); (obtain ⟨p1, rfl, rfl⟩ := hp); (have := hall x hx); (rw [p1, Bool.false_or, beq_iff_eq] at this); (rw [k4, this]; rfl)
-- WALK
theorem grown_but {a c : World} (h : a.grownBy c none) (row : Option Nat) : a.grownBy c row := ⟨h.os, h.tape, h.output, h.size, fun i hi _ => h.block i hi (by simp)⟩
theorem grown_below {a c : World} (h : a.grownBy c none) : Below a.heap.size a c := ⟨h.os, h.tape, h.output, h.size, fun i hi => h.block i hi (by simp)⟩
theorem setB_same (W : World) (r : Nat) (o : Obj) (h : r < W.heap.size) : (ChangeMaps.setBlock W r o).heap[r]? = some o := by
  show (W.heap.setIfInBounds r o)[r]? = some o
  rw [Array.getElem?_setIfInBounds_self_of_lt h]
theorem setB_other (W : World) (r : Nat) (o : Obj) {i : Nat} (h : i ≠ r) : (ChangeMaps.setBlock W r o).heap[i]? = W.heap[i]? := by
  show (W.heap.setIfInBounds r o)[i]? = W.heap[i]?
  rw [Array.getElem?_setIfInBounds_ne (fun e => h e.symm)]
theorem below_setB {B : Nat} {a W : World} (h : Below B a W) (r : Nat) (o : Obj) (hr : B ≤ r) : Below B a (ChangeMaps.setBlock W r o) :=
  h.trans ⟨rfl, rfl, rfl, by simp [ChangeMaps.setBlock], fun k hk => setB_other W r o (by omega)⟩
theorem push_iff (seen : Array Nat) (b y : Nat) : (seen.push b).contains y = true ↔ seen.contains y = true ∨ y = b := by
  rw [contains_push, Bool.or_eq_true, beq_iff_eq]
def SeenOk (es : Array MapEntry) (seen : Array Nat) (ok0 okb : Bool) : Prop := okb = true ↔ ok0 = true ∧ ∀ x ∈ es.toList, seen.contains x.born = true → x.val = .int .i64 1
theorem seen_start (es : Array MapEntry) (ok0 : Bool) : SeenOk es #[] ok0 ok0 := ⟨fun h => ⟨h, fun e _ hc => absurd hc (by simp)⟩, fun h => h.1⟩
theorem seen_false (es : Array MapEntry) (seen : Array Nat) (e : MapEntry) (ok0 : Bool) (h : SeenOk es seen ok0 false) : SeenOk es (seen.push e.born) ok0 false :=
  ⟨fun h' => (by cases h'), fun h' => h.2 ⟨h'.1, fun x hx hc => h'.2 x hx ((push_iff _ _ _).2 (.inl hc))⟩⟩
theorem seen_true (es : Array MapEntry) (seen : Array Nat) (e : MapEntry) (ok0 : Bool) (h : SeenOk es seen ok0 true) (hv : e.val = .int .i64 1) (he : e ∈ es.toList) (hn : (es.toList.map (·.born)).Nodup) : SeenOk es (seen.push e.born) ok0 true :=
  ⟨fun _ => ⟨(h.1 rfl).1, fun x hx hc => by
    rcases (push_iff _ _ _).1 hc with hc | hc
    · exact (h.1 rfl).2 x hx hc
    · rw [born_inj hn hx he hc]; exact hv⟩, fun _ => rfl⟩
theorem seen_bad (es : Array MapEntry) (seen : Array Nat) (e : MapEntry) (ok0 : Bool) (v : Int) (hv : e.val = .int .i64 v) (he : e ∈ es.toList) (hne : v ≠ 1) : SeenOk es (seen.push e.born) ok0 false :=
  ⟨fun h' => (by cases h'), fun h' => by
    (have := h'.2 e he ((push_iff _ _ _).2 (.inr rfl))); (rw [hv] at this)
    exact absurd (by simpa using this) hne⟩
set_option maxHeartbeats 16000000 in
set_option maxRecDepth 100000 in
theorem check_any (A0 : Option Addr) (c0 : Nat) (l0 : List S71) (A1 : Option Addr) (c1 : Nat) (l1 : List S43) (A2 : Option Addr) (c2 : Nat) (l2 : List S45) (A3 : Option Addr) (c3 : Nat) (l3 : List S85) (A4 : Option Addr) (c4 : Nat) (l4 : List S91) (w : World) (h0 : Kd.C k71 w A0 l0.length l0) (h1 : Kd.C k43 w A1 l1.length l1) (h2 : Kd.C k45 w A2 l2.length l2) (h3 : Kd.C k85 w A3 l3.length l3) (h4 : Kd.C k91 w A4 l4.length l4) (hT : UTabs w) (hwf : ∀ x ∈ l2, wf32 x.f1 = true ∧ wf32 x.f2 = true) :
    Calls Tryd.prog 27 #[.agg #[.slice A0 l0.length c0, .slice A1 l1.length c1, .slice A2 l2.length c2, .slice A3 l3.length c3, .slice A4 l4.length c4]] w fun e w' => e = .returned (.int .i64 (chk l0 l1 l2 l3 l4)) ∧ Below w.heap.size w w' := by
  obtain ⟨R, hR⟩ : ∃ R, R = chk l0 l1 l2 l3 l4 := ⟨_, rfl⟩
  rw [← hR]
  have HR := Lib.hid hR
  obtain ⟨M, hM⟩ : ∃ M, M = mx (mx (mx (mx (l0.length : Int) (l1.length : Int)) (l2.length : Int)) (l3.length : Int)) (l4.length : Int) := ⟨_, rfl⟩
  have hmax : ∀ W, (Builtin.max_ #[3, 3, 3, 3, 3] 3 #[.int .i64 (l0.length : Int), .int .i64 (l1.length : Int), .int .i64 (l2.length : Int), .int .i64 (l3.length : Int), .int .i64 (l4.length : Int)]).run Tryd.prog W = .ok (.int .i64 M) W := fun W => by rw [hM]; exact run_max5 _ _ _ _ _ _ _ W
  have hMi : M ≤ 1024 ↔ (l0.length ≤ 1024 ∧ l1.length ≤ 1024 ∧ l2.length ≤ 1024 ∧ l3.length ≤ 1024 ∧ l4.length ≤ 1024) := by rw [hM]; simp only [mx_le]; omega
  have hmm := @run_makeMap Tryd.prog
  have HB1 := Lib.hid (show Below w.heap.size w (w.alloc (.cells #[.slice A0 l0.length c0, .slice A1 l1.length c1, .slice A2 l2.length c2, .slice A3 l3.length c3, .slice A4 l4.length c4] 28)) from (Below.refl _ w).alloc (Nat.le_refl _) _)
  clear hR hM
  by_cases hm : M ≤ 1024
  · have hbd := hMi.1 hm
    (have hmz : ¬ 1024 < M := by omega); (have HBD := Lib.hid hbd); (have HWF := Lib.hid hwf); (clear hMi hbd hwf); (have HA0 := Lib.hid (alloc3 w (.cells #[.slice A0 l0.length c0, .slice A1 l1.length c1, .slice A2 l2.length c2, .slice A3 l3.length c3, .slice A4 l4.length c4] 28) (.map #[] 0) (.cells #[.map (some (w.heap.size + 1))] 67))); (have HBA := Lib.hid (show Below w.heap.size w (((w.alloc (.cells #[.slice A0 l0.length c0, .slice A1 l1.length c1, .slice A2 l2.length c2, .slice A3 l3.length c3, .slice A4 l4.length c4] 28)).alloc (.map #[] 0)).alloc (.cells #[.map (some (w.heap.size + 1))] 67)) from (((Below.refl _ w).alloc (Nat.le_refl _) _).alloc (by simp) _).alloc (by simp; omega) _)); (have HA := Lib.hid (show _ ∧ _ ∧ _ ∧ _ ∧ True from ⟨HA0.out.1, HA0.out.2.1, HA0.out.2.2.1, HA0.out.2.2.2, trivial⟩)); (have hwa : ∃ wa, wa = (((w.alloc (.cells #[.slice A0 l0.length c0, .slice A1 l1.length c1, .slice A2 l2.length c2, .slice A3 l3.length c3, .slice A4 l4.length c4] 28)).alloc (.map #[] 0)).alloc (.cells #[.map (some (w.heap.size + 1))] 67)) := ⟨_, rfl⟩); (obtain ⟨wa, hwa⟩ := hwa); (rw [← hwa] at HA HBA)
    have HIa := Lib.hid (show MapI (w.heap.size + 1) wa [] from ⟨#[], 0, HA.out.2.1, ⟨by simp, by simp, by simp⟩, by simp, fun a b h => by simp [cntP] at h⟩)
    have HBG := Lib.hid (fun W (hg : wa.grownBy W (some (w.heap.size + 1))) => (show Below w.heap.size w W from Below.grown HBA.out hg (by rw [HA.out.2.2.2.1]; omega) (fun k hk => by cases hk; omega)))
    have HTG := Lib.hid (fun W (hg : wa.grownBy W (some (w.heap.size + 1))) => UTabs.below hT (HBG.out W hg))
    (have HGa := Lib.hid (World.grownBy.refl wa (some (w.heap.size + 1)))); (have hne0 : some w.heap.size ≠ some (w.heap.size + 1) := by simp); (have hne2 : some (w.heap.size + 1 + 1) ≠ some (w.heap.size + 1) := by simp); (clear HA0 hT HB1); (go_enter Tryd.func27, Tryd.ntmps27); (go_wp2_with fail); (rw [← hwa]); (clear hwa); (have y0 : wa.cell? ⟨w.heap.size, 0, none⟩ = some (.slice A0 l0.length c0) := (Lib.cell_of_heap ((HGa.out.block w.heap.size (by rw [HA.out.2.2.2.1]; omega) hne0).trans HA.out.1) 0).trans rfl); (have y1 : wa.cell? ⟨w.heap.size, 1, none⟩ = some (.slice A1 l1.length c1) := (Lib.cell_of_heap ((HGa.out.block w.heap.size (by rw [HA.out.2.2.2.1]; omega) hne0).trans HA.out.1) 1).trans rfl); (have y2 : wa.cell? ⟨w.heap.size, 2, none⟩ = some (.slice A2 l2.length c2) := (Lib.cell_of_heap ((HGa.out.block w.heap.size (by rw [HA.out.2.2.2.1]; omega) hne0).trans HA.out.1) 2).trans rfl); (have y3 : wa.cell? ⟨w.heap.size, 3, none⟩ = some (.slice A3 l3.length c3) := (Lib.cell_of_heap ((HGa.out.block w.heap.size (by rw [HA.out.2.2.2.1]; omega) hne0).trans HA.out.1) 3).trans rfl); (have y4 : wa.cell? ⟨w.heap.size, 4, none⟩ = some (.slice A4 l4.length c4) := (Lib.cell_of_heap ((HGa.out.block w.heap.size (by rw [HA.out.2.2.2.1]; omega) hne0).trans HA.out.1) 4).trans rfl); (have y5 : wa.cell? ⟨w.heap.size + 1 + 1, 0, none⟩ = some (.map (some (w.heap.size + 1))) := (Lib.cell_of_heap ((HGa.out.block (w.heap.size + 1 + 1) (by rw [HA.out.2.2.2.1]; omega) hne2).trans HA.out.2.2.1) 0).trans rfl)
    have hr0 := rightSpan_calls A0 c0 l0 spanFine 42 #[] (enters_of Tryd.func42 (by kernel_rfl) rfl) (fun _ W => MapI (w.heap.size + 1) W []) none wa (by have := HBD.out; omega) (Kd.C_below h0 HBA.out) (fun W' h' => HTG.out W' (Lib.grownBy_trans HGa.out (grown_but h' _))) (fun B hB => by cases hB) HIa.out (fun d W W' h hb => h.below hb) (fun W kk x A3 c3 hx hx3 hxC hg hi => by
          (refine (fine1_calls x A3 c3 W (Kd.C_below hxC (grown_below hg)) (HTG.out W (Lib.grownBy_trans HGa.out (grown_but hg _)))).mono ?_); (rintro e w' ⟨rfl, hb⟩)
          exact ⟨rfl, hi.below hb, Lib.grownBy_below (World.grownBy.refl _ _) hb⟩)
    (obtain ⟨K0, hK0⟩ : ∃ K, K = okSpans l0 := ⟨_, rfl⟩); (rw [show rightG _ _ _ _ _ = K0 from hK0.symm] at hr0); (refine hr0.mono ?_); (rintro e w20 ⟨rfl, hi0, hd0, hg0⟩); (have HG20 := Lib.hid (Lib.grownBy_trans HGa.out (grown_but hg0 _))); (have HB20 := Lib.hid (HBG.out _ HG20.out))
    cases K0 with
    | false =>
      (have HO0 := Lib.hid hK0.symm); (obtain ⟨d0, hd0⟩ := hd0); (have HI20 := Lib.hid hd0); (clear hd0 hK0 hi0 hr0 hg0 y0 y1 y2 y3 y4 y5); (have y0 : w20.cell? ⟨w.heap.size, 0, none⟩ = some (.slice A0 l0.length c0) := (Lib.cell_of_heap ((HG20.out.block w.heap.size (by rw [HA.out.2.2.2.1]; omega) hne0).trans HA.out.1) 0).trans rfl); (have y1 : w20.cell? ⟨w.heap.size, 1, none⟩ = some (.slice A1 l1.length c1) := (Lib.cell_of_heap ((HG20.out.block w.heap.size (by rw [HA.out.2.2.2.1]; omega) hne0).trans HA.out.1) 1).trans rfl); (have y2 : w20.cell? ⟨w.heap.size, 2, none⟩ = some (.slice A2 l2.length c2) := (Lib.cell_of_heap ((HG20.out.block w.heap.size (by rw [HA.out.2.2.2.1]; omega) hne0).trans HA.out.1) 2).trans rfl); (have y3 : w20.cell? ⟨w.heap.size, 3, none⟩ = some (.slice A3 l3.length c3) := (Lib.cell_of_heap ((HG20.out.block w.heap.size (by rw [HA.out.2.2.2.1]; omega) hne0).trans HA.out.1) 3).trans rfl); (have y4 : w20.cell? ⟨w.heap.size, 4, none⟩ = some (.slice A4 l4.length c4) := (Lib.cell_of_heap ((HG20.out.block w.heap.size (by rw [HA.out.2.2.2.1]; omega) hne0).trans HA.out.1) 4).trans rfl); (have y5 : w20.cell? ⟨w.heap.size + 1 + 1, 0, none⟩ = some (.map (some (w.heap.size + 1))) := (Lib.cell_of_heap ((HG20.out.block (w.heap.size + 1 + 1) (by rw [HA.out.2.2.2.1]; omega) hne2).trans HA.out.2.2.1) 0).trans rfl); (obtain ⟨es, clock, hes, hstp, hent, _⟩ := HI20.out); (have hrange := run_range_map (P := Tryd.prog) w20 67 80 3 (w.heap.size + 1) es clock (by kernel_rfl) hes); (have HES := Lib.hid (And.intro hes (And.intro hstp hent))); (have HBR := Lib.hid (show Below w.heap.size w (w20.alloc (.mapIter (some (w.heap.size + 1)) clock #[] clock)) from HB20.out.alloc HB20.out.size _))
      (have HIR := Lib.hid (show (w20.alloc (.mapIter (some (w.heap.size + 1)) clock #[] clock)).heap[w20.heap.size]? = some (.mapIter (some (w.heap.size + 1)) clock #[] clock) from heapNewS _ _)); (have HER := Lib.hid (show (w20.alloc (.mapIter (some (w.heap.size + 1)) clock #[] clock)).heap[w.heap.size + 1]? = some (.map es clock) from (World.grownBy_alloc w20 _ none).block _ (Array.getElem?_eq_some_iff.1 hes).1 (by simp) |>.trans hes)); (have HLT := Lib.hid (show w.heap.size + 1 < w20.heap.size from (Array.getElem?_eq_some_iff.1 hes).1)); (clear hes hstp hent); (go_wp2_with fail); (obtain ⟨rr, hrr⟩ : ∃ rr, rr = w20.heap.size := ⟨_, rfl⟩); (rw [← hrr] at HIR HLT ⊢); (generalize (w20.alloc (.mapIter (some (w.heap.size + 1)) clock #[] clock)) = wi at *); (clear hrr hrange y0 y1 y2 y3 y4)
      go_loopg [4] es.size (fun gg s4 wr => ∃ (seen : Array Nat) (c0 : Nat) (okb : Bool), s4 = .bool okb ∧ Hid (wr.heap[rr]? = some (.mapIter (some (w.heap.size + 1)) clock seen c0) ∧ wr.heap[w.heap.size + 1]? = some (.map es clock) ∧ Below w.heap.size w wr) ∧ Hid (clock ≤ c0 ∧ (leftOf es seen).size ≤ gg ∧ SeenOk es seen false okb))
      case atStart => exact ⟨#[], clock, false, rfl, Lib.hid ⟨HIR.out, HER.out, HBR.out⟩, Lib.hid ⟨Nat.le_refl _, Array.size_filter_le, seen_start es _⟩⟩
      case round =>
        obtain ⟨seen, c0, okb, rfl, HH, HJ⟩ := hrel
        rcases run_next_at (P := Tryd.prog) wr 0 rr (w.heap.size + 1) clock c0 seen es clock HH.out.1 HH.out.2.1 HES.out.2.1.1 HJ.out.1 with ⟨hz, hnx⟩ | ⟨e, he, w1, hw1, hnx⟩
        · have HZ := Lib.hid (all_seen es seen hz)
          clear hz
          have HT0 := Lib.hid (show tabOk l0 l1 l2 l3 l4 = okb from by
            (have hj := HJ.out.2.2); (have hz := HZ.out); (unfold tabOk); (rw [HO0.out])
            cases okb with
            | true => exact absurd (hj.1 rfl).1 (by decide)
            | false => simp)
          cases okb with
          | true =>
            (go_wp2); (go_ret); (exact ⟨by rw [HR.out, chk, if_pos HBD.out, HT0.out] <;> rfl, HH.out.2.2⟩)
          | false =>
            (go_wp2); (go_ret); (exact ⟨by rw [HR.out, chk, if_pos HBD.out, HT0.out] <;> rfl, HH.out.2.2⟩)
        · have hee := mem_left he
          (obtain ⟨ka, kb, k1, _, _, k4, _⟩ := HES.out.2.2 e hee.1); (rw [k4] at hnx); (have hlr : rr < wr.heap.size := (Array.getElem?_eq_some_iff.1 HH.out.1).1); (have hlw : rr < w1.heap.size := by rcases hw1 with rfl | rfl <;> exact hlr); (have hBw : Below w.heap.size w w1 := by rcases hw1 with rfl | rfl; exact HH.out.2.2; exact HH.out.2.2.drew); (have hMw : w1.heap[w.heap.size + 1]? = some (.map es clock) := by rcases hw1 with rfl | rfl <;> exact HH.out.2.1); (have hen := run_entry_at (P := Tryd.prog) (ChangeMaps.setBlock w1 rr (.mapIter (some (w.heap.size + 1)) clock (seen.push e.born) clock)) rr (w.heap.size + 1) clock seen es clock e (setB_same _ _ _ hlw) ((setB_other _ _ _ (by have := HLT.out; omega)).trans hMw) hee.1 HES.out.2.1.2.1); (rw [k4] at hen); (have HN := Lib.hid (And.intro (setB_same w1 rr (.mapIter (some (w.heap.size + 1)) clock (seen.push e.born) clock) hlw) (And.intro ((setB_other w1 rr (.mapIter (some (w.heap.size + 1)) clock (seen.push e.born) clock) (by have := HLT.out; omega)).trans hMw) (below_setB hBw rr (.mapIter (some (w.heap.size + 1)) clock (seen.push e.born) clock) (Nat.le_of_lt (Nat.lt_of_succ_lt HLT.out)))))); (have HK := Lib.hid (And.intro k4 (And.intro hee (left_shrinks es seen e he)))); (generalize (cntP [] ka kb : Int) = v at *); (generalize ekk : e.key = ek at *); (generalize ChangeMaps.setBlock w1 rr (.mapIter (some (w.heap.size + 1)) clock (seen.push e.born) clock) = w2 at *); (clear k4 hee he hlr hlw hBw hMw hw1 k1 ekk)
          cases okb with
          | false =>
            (go_wp2); (go_roundg ((leftOf es (seen.push e.born)).size))
            case measure => exact Nat.lt_of_lt_of_le HK.out.2.2 HJ.out.2.1
            case rel => exact ⟨seen.push e.born, clock, false, rfl, HN, Lib.hid ⟨Nat.le_refl _, Nat.le_refl _, seen_false es seen e false HJ.out.2.2⟩⟩
          | true =>
            by_cases hv1 : v = 1
            · have HV := Lib.hid hv1
              (subst hv1); (go_wp2); (go_roundg ((leftOf es (seen.push e.born)).size))
              case measure => exact Nat.lt_of_lt_of_le HK.out.2.2 HJ.out.2.1
              case rel => exact ⟨seen.push e.born, clock, true, rfl, HN, Lib.hid ⟨Nat.le_refl _, Nat.le_refl _, seen_true es seen e false HJ.out.2.2 HK.out.1 HK.out.2.1.1 HES.out.2.1.2.1⟩⟩
            · have HV := Lib.hid hv1
              (have hvb : (v == 1) = false := beq_eq_false_iff_ne.2 hv1); (clear hv1); (go_wp2); (go_roundg ((leftOf es (seen.push e.born)).size))
              case measure => exact Nat.lt_of_lt_of_le HK.out.2.2 HJ.out.2.1
              case rel => exact ⟨seen.push e.born, clock, false, rfl, HN, Lib.hid ⟨Nat.le_refl _, Nat.le_refl _, seen_bad es seen e false v HK.out.1 HK.out.2.1.1 HV.out⟩⟩
    | true =>
      (have HO0 := Lib.hid hK0.symm); (have HI20 := Lib.hid (hi0 rfl)); (clear hK0 hi0 hd0 hr0 hg0 y0 y1 y2 y3 y4 y5); (have y0 : w20.cell? ⟨w.heap.size, 0, none⟩ = some (.slice A0 l0.length c0) := (Lib.cell_of_heap ((HG20.out.block w.heap.size (by rw [HA.out.2.2.2.1]; omega) hne0).trans HA.out.1) 0).trans rfl); (have y1 : w20.cell? ⟨w.heap.size, 1, none⟩ = some (.slice A1 l1.length c1) := (Lib.cell_of_heap ((HG20.out.block w.heap.size (by rw [HA.out.2.2.2.1]; omega) hne0).trans HA.out.1) 1).trans rfl); (have y2 : w20.cell? ⟨w.heap.size, 2, none⟩ = some (.slice A2 l2.length c2) := (Lib.cell_of_heap ((HG20.out.block w.heap.size (by rw [HA.out.2.2.2.1]; omega) hne0).trans HA.out.1) 2).trans rfl); (have y3 : w20.cell? ⟨w.heap.size, 3, none⟩ = some (.slice A3 l3.length c3) := (Lib.cell_of_heap ((HG20.out.block w.heap.size (by rw [HA.out.2.2.2.1]; omega) hne0).trans HA.out.1) 3).trans rfl); (have y4 : w20.cell? ⟨w.heap.size, 4, none⟩ = some (.slice A4 l4.length c4) := (Lib.cell_of_heap ((HG20.out.block w.heap.size (by rw [HA.out.2.2.2.1]; omega) hne0).trans HA.out.1) 4).trans rfl); (have y5 : w20.cell? ⟨w.heap.size + 1 + 1, 0, none⟩ = some (.map (some (w.heap.size + 1))) := (Lib.cell_of_heap ((HG20.out.block (w.heap.size + 1 + 1) (by rw [HA.out.2.2.2.1]; omega) hne2).trans HA.out.2.2.1) 0).trans rfl)
      have hr1 := rightClass_calls A1 c1 l1 clsFine 47 #[] (enters_of Tryd.func47 (by kernel_rfl) rfl) (fun _ W => MapI (w.heap.size + 1) W []) (some (w.heap.size + 1)) w20 (by have := HBD.out; omega) (Kd.C_below h1 HB20.out) (fun W' h' => HTG.out W' (Lib.grownBy_trans HG20.out h')) (fun B hB => by cases hB; have h9 := HG20.out.size; have h8 := HA.out.2.2.2.1; omega) HI20.out (fun d W W' h hb => h.below hb) (fun W kk x hx hg hi => by
            (refine Calls.mono (tables_Check_2.calls x.f0 x.f1 _ W (cls_f _ _)) ?_); (rintro e w' ⟨rfl, hb⟩)
            exact ⟨rfl, hi.below hb, Lib.grownBy_below (World.grownBy.refl _ _) hb⟩)
      (obtain ⟨K1, hK1⟩ : ∃ K, K = okClasses l1 := ⟨_, rfl⟩); (rw [show rightG _ _ _ _ _ = K1 from hK1.symm] at hr1); (go_wp2_with fail); (refine hr1.mono ?_); (rintro e w21 ⟨rfl, hi1, hd1, hg1⟩); (have HG21 := Lib.hid (Lib.grownBy_trans HG20.out hg1)); (have HB21 := Lib.hid (HBG.out _ HG21.out))
      cases K1 with
      | false =>
        (have HO1 := Lib.hid hK1.symm); (obtain ⟨d1, hd1⟩ := hd1); (have HI21 := Lib.hid hd1); (clear hd1 hK1 hi1 hr1 hg1 y0 y1 y2 y3 y4 y5); (have y0 : w21.cell? ⟨w.heap.size, 0, none⟩ = some (.slice A0 l0.length c0) := (Lib.cell_of_heap ((HG21.out.block w.heap.size (by rw [HA.out.2.2.2.1]; omega) hne0).trans HA.out.1) 0).trans rfl); (have y1 : w21.cell? ⟨w.heap.size, 1, none⟩ = some (.slice A1 l1.length c1) := (Lib.cell_of_heap ((HG21.out.block w.heap.size (by rw [HA.out.2.2.2.1]; omega) hne0).trans HA.out.1) 1).trans rfl); (have y2 : w21.cell? ⟨w.heap.size, 2, none⟩ = some (.slice A2 l2.length c2) := (Lib.cell_of_heap ((HG21.out.block w.heap.size (by rw [HA.out.2.2.2.1]; omega) hne0).trans HA.out.1) 2).trans rfl); (have y3 : w21.cell? ⟨w.heap.size, 3, none⟩ = some (.slice A3 l3.length c3) := (Lib.cell_of_heap ((HG21.out.block w.heap.size (by rw [HA.out.2.2.2.1]; omega) hne0).trans HA.out.1) 3).trans rfl); (have y4 : w21.cell? ⟨w.heap.size, 4, none⟩ = some (.slice A4 l4.length c4) := (Lib.cell_of_heap ((HG21.out.block w.heap.size (by rw [HA.out.2.2.2.1]; omega) hne0).trans HA.out.1) 4).trans rfl); (have y5 : w21.cell? ⟨w.heap.size + 1 + 1, 0, none⟩ = some (.map (some (w.heap.size + 1))) := (Lib.cell_of_heap ((HG21.out.block (w.heap.size + 1 + 1) (by rw [HA.out.2.2.2.1]; omega) hne2).trans HA.out.2.2.1) 0).trans rfl); (obtain ⟨es, clock, hes, hstp, hent, _⟩ := HI21.out); (have hrange := run_range_map (P := Tryd.prog) w21 67 80 3 (w.heap.size + 1) es clock (by kernel_rfl) hes); (have HES := Lib.hid (And.intro hes (And.intro hstp hent))); (have HBR := Lib.hid (show Below w.heap.size w (w21.alloc (.mapIter (some (w.heap.size + 1)) clock #[] clock)) from HB21.out.alloc HB21.out.size _))
        (have HIR := Lib.hid (show (w21.alloc (.mapIter (some (w.heap.size + 1)) clock #[] clock)).heap[w21.heap.size]? = some (.mapIter (some (w.heap.size + 1)) clock #[] clock) from heapNewS _ _)); (have HER := Lib.hid (show (w21.alloc (.mapIter (some (w.heap.size + 1)) clock #[] clock)).heap[w.heap.size + 1]? = some (.map es clock) from (World.grownBy_alloc w21 _ none).block _ (Array.getElem?_eq_some_iff.1 hes).1 (by simp) |>.trans hes)); (have HLT := Lib.hid (show w.heap.size + 1 < w21.heap.size from (Array.getElem?_eq_some_iff.1 hes).1)); (clear hes hstp hent); (go_wp2_with fail); (obtain ⟨rr, hrr⟩ : ∃ rr, rr = w21.heap.size := ⟨_, rfl⟩); (rw [← hrr] at HIR HLT ⊢); (generalize (w21.alloc (.mapIter (some (w.heap.size + 1)) clock #[] clock)) = wi at *); (clear hrr hrange y0 y1 y2 y3 y4)
        go_loopg [4] es.size (fun gg s4 wr => ∃ (seen : Array Nat) (c0 : Nat) (okb : Bool), s4 = .bool okb ∧ Hid (wr.heap[rr]? = some (.mapIter (some (w.heap.size + 1)) clock seen c0) ∧ wr.heap[w.heap.size + 1]? = some (.map es clock) ∧ Below w.heap.size w wr) ∧ Hid (clock ≤ c0 ∧ (leftOf es seen).size ≤ gg ∧ SeenOk es seen false okb))
        case atStart => exact ⟨#[], clock, false, rfl, Lib.hid ⟨HIR.out, HER.out, HBR.out⟩, Lib.hid ⟨Nat.le_refl _, Array.size_filter_le, seen_start es _⟩⟩
        case round =>
          obtain ⟨seen, c0, okb, rfl, HH, HJ⟩ := hrel
          rcases run_next_at (P := Tryd.prog) wr 0 rr (w.heap.size + 1) clock c0 seen es clock HH.out.1 HH.out.2.1 HES.out.2.1.1 HJ.out.1 with ⟨hz, hnx⟩ | ⟨e, he, w1, hw1, hnx⟩
          · have HZ := Lib.hid (all_seen es seen hz)
            clear hz
            have HT0 := Lib.hid (show tabOk l0 l1 l2 l3 l4 = okb from by
              (have hj := HJ.out.2.2); (have hz := HZ.out); (unfold tabOk); (rw [HO0.out, HO1.out])
              cases okb with
              | true => exact absurd (hj.1 rfl).1 (by decide)
              | false => simp)
            cases okb with
            | true =>
              (go_wp2); (go_ret); (exact ⟨by rw [HR.out, chk, if_pos HBD.out, HT0.out] <;> rfl, HH.out.2.2⟩)
            | false =>
              (go_wp2); (go_ret); (exact ⟨by rw [HR.out, chk, if_pos HBD.out, HT0.out] <;> rfl, HH.out.2.2⟩)
          · have hee := mem_left he
            (obtain ⟨ka, kb, k1, _, _, k4, _⟩ := HES.out.2.2 e hee.1); (rw [k4] at hnx); (have hlr : rr < wr.heap.size := (Array.getElem?_eq_some_iff.1 HH.out.1).1); (have hlw : rr < w1.heap.size := by rcases hw1 with rfl | rfl <;> exact hlr); (have hBw : Below w.heap.size w w1 := by rcases hw1 with rfl | rfl; exact HH.out.2.2; exact HH.out.2.2.drew); (have hMw : w1.heap[w.heap.size + 1]? = some (.map es clock) := by rcases hw1 with rfl | rfl <;> exact HH.out.2.1); (have hen := run_entry_at (P := Tryd.prog) (ChangeMaps.setBlock w1 rr (.mapIter (some (w.heap.size + 1)) clock (seen.push e.born) clock)) rr (w.heap.size + 1) clock seen es clock e (setB_same _ _ _ hlw) ((setB_other _ _ _ (by have := HLT.out; omega)).trans hMw) hee.1 HES.out.2.1.2.1); (rw [k4] at hen); (have HN := Lib.hid (And.intro (setB_same w1 rr (.mapIter (some (w.heap.size + 1)) clock (seen.push e.born) clock) hlw) (And.intro ((setB_other w1 rr (.mapIter (some (w.heap.size + 1)) clock (seen.push e.born) clock) (by have := HLT.out; omega)).trans hMw) (below_setB hBw rr (.mapIter (some (w.heap.size + 1)) clock (seen.push e.born) clock) (Nat.le_of_lt (Nat.lt_of_succ_lt HLT.out)))))); (have HK := Lib.hid (And.intro k4 (And.intro hee (left_shrinks es seen e he)))); (generalize (cntP [] ka kb : Int) = v at *); (generalize ekk : e.key = ek at *); (generalize ChangeMaps.setBlock w1 rr (.mapIter (some (w.heap.size + 1)) clock (seen.push e.born) clock) = w2 at *); (clear k4 hee he hlr hlw hBw hMw hw1 k1 ekk)
            cases okb with
            | false =>
              (go_wp2); (go_roundg ((leftOf es (seen.push e.born)).size))
              case measure => exact Nat.lt_of_lt_of_le HK.out.2.2 HJ.out.2.1
              case rel => exact ⟨seen.push e.born, clock, false, rfl, HN, Lib.hid ⟨Nat.le_refl _, Nat.le_refl _, seen_false es seen e false HJ.out.2.2⟩⟩
            | true =>
              by_cases hv1 : v = 1
              · have HV := Lib.hid hv1
                (subst hv1); (go_wp2); (go_roundg ((leftOf es (seen.push e.born)).size))
                case measure => exact Nat.lt_of_lt_of_le HK.out.2.2 HJ.out.2.1
                case rel => exact ⟨seen.push e.born, clock, true, rfl, HN, Lib.hid ⟨Nat.le_refl _, Nat.le_refl _, seen_true es seen e false HJ.out.2.2 HK.out.1 HK.out.2.1.1 HES.out.2.1.2.1⟩⟩
              · have HV := Lib.hid hv1
                (have hvb : (v == 1) = false := beq_eq_false_iff_ne.2 hv1); (clear hv1); (go_wp2); (go_roundg ((leftOf es (seen.push e.born)).size))
                case measure => exact Nat.lt_of_lt_of_le HK.out.2.2 HJ.out.2.1
                case rel => exact ⟨seen.push e.born, clock, false, rfl, HN, Lib.hid ⟨Nat.le_refl _, Nat.le_refl _, seen_bad es seen e false v HK.out.1 HK.out.2.1.1 HV.out⟩⟩
      | true =>
        (have HO1 := Lib.hid hK1.symm); (have HI21 := Lib.hid (hi1 rfl)); (clear hK1 hi1 hd1 hr1 hg1 y0 y1 y2 y3 y4 y5); (have y0 : w21.cell? ⟨w.heap.size, 0, none⟩ = some (.slice A0 l0.length c0) := (Lib.cell_of_heap ((HG21.out.block w.heap.size (by rw [HA.out.2.2.2.1]; omega) hne0).trans HA.out.1) 0).trans rfl); (have y1 : w21.cell? ⟨w.heap.size, 1, none⟩ = some (.slice A1 l1.length c1) := (Lib.cell_of_heap ((HG21.out.block w.heap.size (by rw [HA.out.2.2.2.1]; omega) hne0).trans HA.out.1) 1).trans rfl); (have y2 : w21.cell? ⟨w.heap.size, 2, none⟩ = some (.slice A2 l2.length c2) := (Lib.cell_of_heap ((HG21.out.block w.heap.size (by rw [HA.out.2.2.2.1]; omega) hne0).trans HA.out.1) 2).trans rfl); (have y3 : w21.cell? ⟨w.heap.size, 3, none⟩ = some (.slice A3 l3.length c3) := (Lib.cell_of_heap ((HG21.out.block w.heap.size (by rw [HA.out.2.2.2.1]; omega) hne0).trans HA.out.1) 3).trans rfl); (have y4 : w21.cell? ⟨w.heap.size, 4, none⟩ = some (.slice A4 l4.length c4) := (Lib.cell_of_heap ((HG21.out.block w.heap.size (by rw [HA.out.2.2.2.1]; omega) hne0).trans HA.out.1) 4).trans rfl); (have y5 : w21.cell? ⟨w.heap.size + 1 + 1, 0, none⟩ = some (.map (some (w.heap.size + 1))) := (Lib.cell_of_heap ((HG21.out.block (w.heap.size + 1 + 1) (by rw [HA.out.2.2.2.1]; omega) hne2).trans HA.out.2.2.1) 0).trans rfl); (have HI20 := HI21)
        have hr2 := rightPair_calls A2 c2 l2 pairFine 50 #[.pointer (some ⟨w.heap.size + 1 + 1, 0, none⟩)] (enters_of Tryd.func50 (by kernel_rfl) rfl) (fun d W => MapI (w.heap.size + 1) W d) (some (w.heap.size + 1)) w21 (by have := HBD.out; omega) (Kd.C_below h2 HB21.out) (fun W' h' => HTG.out W' (Lib.grownBy_trans HG21.out h')) (fun B hB => by cases hB; have h9 := HG21.out.size; have h8 := HA.out.2.2.2.1; omega) HI20.out (fun d W W' h hb => h.below hb) (fun W kk x hx hg hi => by
              have hl := fine3_calls x (w.heap.size + 1) (w.heap.size + 1 + 1) (l2.take kk) W (fun W' h' => HTG.out W' (Lib.grownBy_trans (Lib.grownBy_trans HG21.out hg) h')) ((Lib.cell_of_heap (((Lib.grownBy_trans HG21.out hg).block (w.heap.size + 1 + 1) (by rw [HA.out.2.2.2.1]; omega) hne2).trans HA.out.2.2.1) 0).trans rfl) (by omega) hi (HWF.out x (List.mem_of_getElem? hx)).1 (HWF.out x (List.mem_of_getElem? hx)).2 (by rw [List.length_take]; have := HBD.out; omega)
              rw [List.take_add_one, hx]
              exact hl)
        (obtain ⟨K2, hK2⟩ : ∃ K, K = okPairs l2 := ⟨_, rfl⟩); (rw [show rightG _ _ _ _ _ = K2 from hK2.symm] at hr2); (go_wp2_with fail); (refine hr2.mono ?_); (rintro e w22 ⟨rfl, hi2, hd2, hg2⟩); (have HG22 := Lib.hid (Lib.grownBy_trans HG21.out hg2)); (have HB22 := Lib.hid (HBG.out _ HG22.out))
        cases K2 with
        | false =>
          (have HO2 := Lib.hid hK2.symm); (obtain ⟨d2, hd2⟩ := hd2); (have HI22 := Lib.hid hd2); (clear hd2 hK2 hi2 hr2 hg2 y0 y1 y2 y3 y4 y5); (have y0 : w22.cell? ⟨w.heap.size, 0, none⟩ = some (.slice A0 l0.length c0) := (Lib.cell_of_heap ((HG22.out.block w.heap.size (by rw [HA.out.2.2.2.1]; omega) hne0).trans HA.out.1) 0).trans rfl); (have y1 : w22.cell? ⟨w.heap.size, 1, none⟩ = some (.slice A1 l1.length c1) := (Lib.cell_of_heap ((HG22.out.block w.heap.size (by rw [HA.out.2.2.2.1]; omega) hne0).trans HA.out.1) 1).trans rfl); (have y2 : w22.cell? ⟨w.heap.size, 2, none⟩ = some (.slice A2 l2.length c2) := (Lib.cell_of_heap ((HG22.out.block w.heap.size (by rw [HA.out.2.2.2.1]; omega) hne0).trans HA.out.1) 2).trans rfl); (have y3 : w22.cell? ⟨w.heap.size, 3, none⟩ = some (.slice A3 l3.length c3) := (Lib.cell_of_heap ((HG22.out.block w.heap.size (by rw [HA.out.2.2.2.1]; omega) hne0).trans HA.out.1) 3).trans rfl); (have y4 : w22.cell? ⟨w.heap.size, 4, none⟩ = some (.slice A4 l4.length c4) := (Lib.cell_of_heap ((HG22.out.block w.heap.size (by rw [HA.out.2.2.2.1]; omega) hne0).trans HA.out.1) 4).trans rfl); (have y5 : w22.cell? ⟨w.heap.size + 1 + 1, 0, none⟩ = some (.map (some (w.heap.size + 1))) := (Lib.cell_of_heap ((HG22.out.block (w.heap.size + 1 + 1) (by rw [HA.out.2.2.2.1]; omega) hne2).trans HA.out.2.2.1) 0).trans rfl); (obtain ⟨es, clock, hes, hstp, hent, _⟩ := HI22.out); (have hrange := run_range_map (P := Tryd.prog) w22 67 80 3 (w.heap.size + 1) es clock (by kernel_rfl) hes); (have HES := Lib.hid (And.intro hes (And.intro hstp hent))); (have HBR := Lib.hid (show Below w.heap.size w (w22.alloc (.mapIter (some (w.heap.size + 1)) clock #[] clock)) from HB22.out.alloc HB22.out.size _))
          (have HIR := Lib.hid (show (w22.alloc (.mapIter (some (w.heap.size + 1)) clock #[] clock)).heap[w22.heap.size]? = some (.mapIter (some (w.heap.size + 1)) clock #[] clock) from heapNewS _ _)); (have HER := Lib.hid (show (w22.alloc (.mapIter (some (w.heap.size + 1)) clock #[] clock)).heap[w.heap.size + 1]? = some (.map es clock) from (World.grownBy_alloc w22 _ none).block _ (Array.getElem?_eq_some_iff.1 hes).1 (by simp) |>.trans hes)); (have HLT := Lib.hid (show w.heap.size + 1 < w22.heap.size from (Array.getElem?_eq_some_iff.1 hes).1)); (clear hes hstp hent); (go_wp2_with fail); (obtain ⟨rr, hrr⟩ : ∃ rr, rr = w22.heap.size := ⟨_, rfl⟩); (rw [← hrr] at HIR HLT ⊢); (generalize (w22.alloc (.mapIter (some (w.heap.size + 1)) clock #[] clock)) = wi at *); (clear hrr hrange y0 y1 y2 y3 y4)
          go_loopg [4] es.size (fun gg s4 wr => ∃ (seen : Array Nat) (c0 : Nat) (okb : Bool), s4 = .bool okb ∧ Hid (wr.heap[rr]? = some (.mapIter (some (w.heap.size + 1)) clock seen c0) ∧ wr.heap[w.heap.size + 1]? = some (.map es clock) ∧ Below w.heap.size w wr) ∧ Hid (clock ≤ c0 ∧ (leftOf es seen).size ≤ gg ∧ SeenOk es seen false okb))
          case atStart => exact ⟨#[], clock, false, rfl, Lib.hid ⟨HIR.out, HER.out, HBR.out⟩, Lib.hid ⟨Nat.le_refl _, Array.size_filter_le, seen_start es _⟩⟩
          case round =>
            obtain ⟨seen, c0, okb, rfl, HH, HJ⟩ := hrel
            rcases run_next_at (P := Tryd.prog) wr 0 rr (w.heap.size + 1) clock c0 seen es clock HH.out.1 HH.out.2.1 HES.out.2.1.1 HJ.out.1 with ⟨hz, hnx⟩ | ⟨e, he, w1, hw1, hnx⟩
            · have HZ := Lib.hid (all_seen es seen hz)
              clear hz
              have HT0 := Lib.hid (show tabOk l0 l1 l2 l3 l4 = okb from by
                (have hj := HJ.out.2.2); (have hz := HZ.out); (unfold tabOk); (rw [HO0.out, HO1.out, HO2.out])
                cases okb with
                | true => exact absurd (hj.1 rfl).1 (by decide)
                | false => simp)
              cases okb with
              | true =>
                (go_wp2); (go_ret); (exact ⟨by rw [HR.out, chk, if_pos HBD.out, HT0.out] <;> rfl, HH.out.2.2⟩)
              | false =>
                (go_wp2); (go_ret); (exact ⟨by rw [HR.out, chk, if_pos HBD.out, HT0.out] <;> rfl, HH.out.2.2⟩)
            · have hee := mem_left he
              (obtain ⟨ka, kb, k1, _, _, k4, _⟩ := HES.out.2.2 e hee.1); (rw [k4] at hnx); (have hlr : rr < wr.heap.size := (Array.getElem?_eq_some_iff.1 HH.out.1).1); (have hlw : rr < w1.heap.size := by rcases hw1 with rfl | rfl <;> exact hlr); (have hBw : Below w.heap.size w w1 := by rcases hw1 with rfl | rfl; exact HH.out.2.2; exact HH.out.2.2.drew); (have hMw : w1.heap[w.heap.size + 1]? = some (.map es clock) := by rcases hw1 with rfl | rfl <;> exact HH.out.2.1); (have hen := run_entry_at (P := Tryd.prog) (ChangeMaps.setBlock w1 rr (.mapIter (some (w.heap.size + 1)) clock (seen.push e.born) clock)) rr (w.heap.size + 1) clock seen es clock e (setB_same _ _ _ hlw) ((setB_other _ _ _ (by have := HLT.out; omega)).trans hMw) hee.1 HES.out.2.1.2.1); (rw [k4] at hen); (have HN := Lib.hid (And.intro (setB_same w1 rr (.mapIter (some (w.heap.size + 1)) clock (seen.push e.born) clock) hlw) (And.intro ((setB_other w1 rr (.mapIter (some (w.heap.size + 1)) clock (seen.push e.born) clock) (by have := HLT.out; omega)).trans hMw) (below_setB hBw rr (.mapIter (some (w.heap.size + 1)) clock (seen.push e.born) clock) (Nat.le_of_lt (Nat.lt_of_succ_lt HLT.out)))))); (have HK := Lib.hid (And.intro k4 (And.intro hee (left_shrinks es seen e he)))); (generalize (cntP d2 ka kb : Int) = v at *); (generalize ekk : e.key = ek at *); (generalize ChangeMaps.setBlock w1 rr (.mapIter (some (w.heap.size + 1)) clock (seen.push e.born) clock) = w2 at *); (clear k4 hee he hlr hlw hBw hMw hw1 k1 ekk)
              cases okb with
              | false =>
                (go_wp2); (go_roundg ((leftOf es (seen.push e.born)).size))
                case measure => exact Nat.lt_of_lt_of_le HK.out.2.2 HJ.out.2.1
                case rel => exact ⟨seen.push e.born, clock, false, rfl, HN, Lib.hid ⟨Nat.le_refl _, Nat.le_refl _, seen_false es seen e false HJ.out.2.2⟩⟩
              | true =>
                by_cases hv1 : v = 1
                · have HV := Lib.hid hv1
                  (subst hv1); (go_wp2); (go_roundg ((leftOf es (seen.push e.born)).size))
                  case measure => exact Nat.lt_of_lt_of_le HK.out.2.2 HJ.out.2.1
                  case rel => exact ⟨seen.push e.born, clock, true, rfl, HN, Lib.hid ⟨Nat.le_refl _, Nat.le_refl _, seen_true es seen e false HJ.out.2.2 HK.out.1 HK.out.2.1.1 HES.out.2.1.2.1⟩⟩
                · have HV := Lib.hid hv1
                  (have hvb : (v == 1) = false := beq_eq_false_iff_ne.2 hv1); (clear hv1); (go_wp2); (go_roundg ((leftOf es (seen.push e.born)).size))
                  case measure => exact Nat.lt_of_lt_of_le HK.out.2.2 HJ.out.2.1
                  case rel => exact ⟨seen.push e.born, clock, false, rfl, HN, Lib.hid ⟨Nat.le_refl _, Nat.le_refl _, seen_bad es seen e false v HK.out.1 HK.out.2.1.1 HV.out⟩⟩
        | true =>
          (have HO2 := Lib.hid hK2.symm); (have HI22 := Lib.hid (hi2 rfl)); (clear hK2 hi2 hd2 hr2 hg2 y0 y1 y2 y3 y4 y5); (have y0 : w22.cell? ⟨w.heap.size, 0, none⟩ = some (.slice A0 l0.length c0) := (Lib.cell_of_heap ((HG22.out.block w.heap.size (by rw [HA.out.2.2.2.1]; omega) hne0).trans HA.out.1) 0).trans rfl); (have y1 : w22.cell? ⟨w.heap.size, 1, none⟩ = some (.slice A1 l1.length c1) := (Lib.cell_of_heap ((HG22.out.block w.heap.size (by rw [HA.out.2.2.2.1]; omega) hne0).trans HA.out.1) 1).trans rfl); (have y2 : w22.cell? ⟨w.heap.size, 2, none⟩ = some (.slice A2 l2.length c2) := (Lib.cell_of_heap ((HG22.out.block w.heap.size (by rw [HA.out.2.2.2.1]; omega) hne0).trans HA.out.1) 2).trans rfl); (have y3 : w22.cell? ⟨w.heap.size, 3, none⟩ = some (.slice A3 l3.length c3) := (Lib.cell_of_heap ((HG22.out.block w.heap.size (by rw [HA.out.2.2.2.1]; omega) hne0).trans HA.out.1) 3).trans rfl); (have y4 : w22.cell? ⟨w.heap.size, 4, none⟩ = some (.slice A4 l4.length c4) := (Lib.cell_of_heap ((HG22.out.block w.heap.size (by rw [HA.out.2.2.2.1]; omega) hne0).trans HA.out.1) 4).trans rfl); (have y5 : w22.cell? ⟨w.heap.size + 1 + 1, 0, none⟩ = some (.map (some (w.heap.size + 1))) := (Lib.cell_of_heap ((HG22.out.block (w.heap.size + 1 + 1) (by rw [HA.out.2.2.2.1]; omega) hne2).trans HA.out.2.2.1) 0).trans rfl)
          have hr3 := rightWays_calls A3 c3 l3 waysFine 53 #[] (enters_of Tryd.func53 (by kernel_rfl) rfl) (fun _ W => MapI (w.heap.size + 1) W l2) (some (w.heap.size + 1)) w22 (by have := HBD.out; omega) (Kd.C_below h3 HB22.out) (fun W' h' => HTG.out W' (Lib.grownBy_trans HG22.out h')) (fun B hB => by cases hB; have h9 := HG22.out.size; have h8 := HA.out.2.2.2.1; omega) HI22.out (fun d W W' h hb => h.below hb) (fun W kk x hx hg hi => by
                (refine Calls.mono (tables_Check_4.calls x.f0 x.f1 x.f2 _ W (ways_f _ _ _)) ?_); (rintro e w' ⟨rfl, hb⟩)
                exact ⟨rfl, hi.below hb, Lib.grownBy_below (World.grownBy.refl _ _) hb⟩)
          (obtain ⟨K3, hK3⟩ : ∃ K, K = okWays l3 := ⟨_, rfl⟩); (rw [show rightG _ _ _ _ _ = K3 from hK3.symm] at hr3); (go_wp2_with fail); (refine hr3.mono ?_); (rintro e w23 ⟨rfl, hi3, hd3, hg3⟩); (have HG23 := Lib.hid (Lib.grownBy_trans HG22.out hg3)); (have HB23 := Lib.hid (HBG.out _ HG23.out))
          cases K3 with
          | false =>
            (have HO3 := Lib.hid hK3.symm); (obtain ⟨d3, hd3⟩ := hd3); (have HI23 := Lib.hid hd3); (clear hd3 hK3 hi3 hr3 hg3 y0 y1 y2 y3 y4 y5); (have y0 : w23.cell? ⟨w.heap.size, 0, none⟩ = some (.slice A0 l0.length c0) := (Lib.cell_of_heap ((HG23.out.block w.heap.size (by rw [HA.out.2.2.2.1]; omega) hne0).trans HA.out.1) 0).trans rfl); (have y1 : w23.cell? ⟨w.heap.size, 1, none⟩ = some (.slice A1 l1.length c1) := (Lib.cell_of_heap ((HG23.out.block w.heap.size (by rw [HA.out.2.2.2.1]; omega) hne0).trans HA.out.1) 1).trans rfl); (have y2 : w23.cell? ⟨w.heap.size, 2, none⟩ = some (.slice A2 l2.length c2) := (Lib.cell_of_heap ((HG23.out.block w.heap.size (by rw [HA.out.2.2.2.1]; omega) hne0).trans HA.out.1) 2).trans rfl); (have y3 : w23.cell? ⟨w.heap.size, 3, none⟩ = some (.slice A3 l3.length c3) := (Lib.cell_of_heap ((HG23.out.block w.heap.size (by rw [HA.out.2.2.2.1]; omega) hne0).trans HA.out.1) 3).trans rfl); (have y4 : w23.cell? ⟨w.heap.size, 4, none⟩ = some (.slice A4 l4.length c4) := (Lib.cell_of_heap ((HG23.out.block w.heap.size (by rw [HA.out.2.2.2.1]; omega) hne0).trans HA.out.1) 4).trans rfl); (have y5 : w23.cell? ⟨w.heap.size + 1 + 1, 0, none⟩ = some (.map (some (w.heap.size + 1))) := (Lib.cell_of_heap ((HG23.out.block (w.heap.size + 1 + 1) (by rw [HA.out.2.2.2.1]; omega) hne2).trans HA.out.2.2.1) 0).trans rfl); (obtain ⟨es, clock, hes, hstp, hent, _⟩ := HI23.out); (have hrange := run_range_map (P := Tryd.prog) w23 67 80 3 (w.heap.size + 1) es clock (by kernel_rfl) hes); (have HES := Lib.hid (And.intro hes (And.intro hstp hent))); (have HBR := Lib.hid (show Below w.heap.size w (w23.alloc (.mapIter (some (w.heap.size + 1)) clock #[] clock)) from HB23.out.alloc HB23.out.size _))
            (have HIR := Lib.hid (show (w23.alloc (.mapIter (some (w.heap.size + 1)) clock #[] clock)).heap[w23.heap.size]? = some (.mapIter (some (w.heap.size + 1)) clock #[] clock) from heapNewS _ _)); (have HER := Lib.hid (show (w23.alloc (.mapIter (some (w.heap.size + 1)) clock #[] clock)).heap[w.heap.size + 1]? = some (.map es clock) from (World.grownBy_alloc w23 _ none).block _ (Array.getElem?_eq_some_iff.1 hes).1 (by simp) |>.trans hes)); (have HLT := Lib.hid (show w.heap.size + 1 < w23.heap.size from (Array.getElem?_eq_some_iff.1 hes).1)); (clear hes hstp hent); (go_wp2_with fail); (obtain ⟨rr, hrr⟩ : ∃ rr, rr = w23.heap.size := ⟨_, rfl⟩); (rw [← hrr] at HIR HLT ⊢); (generalize (w23.alloc (.mapIter (some (w.heap.size + 1)) clock #[] clock)) = wi at *); (clear hrr hrange y0 y1 y2 y3 y4)
            go_loopg [4] es.size (fun gg s4 wr => ∃ (seen : Array Nat) (c0 : Nat) (okb : Bool), s4 = .bool okb ∧ Hid (wr.heap[rr]? = some (.mapIter (some (w.heap.size + 1)) clock seen c0) ∧ wr.heap[w.heap.size + 1]? = some (.map es clock) ∧ Below w.heap.size w wr) ∧ Hid (clock ≤ c0 ∧ (leftOf es seen).size ≤ gg ∧ SeenOk es seen false okb))
            case atStart => exact ⟨#[], clock, false, rfl, Lib.hid ⟨HIR.out, HER.out, HBR.out⟩, Lib.hid ⟨Nat.le_refl _, Array.size_filter_le, seen_start es _⟩⟩
            case round =>
              obtain ⟨seen, c0, okb, rfl, HH, HJ⟩ := hrel
              rcases run_next_at (P := Tryd.prog) wr 0 rr (w.heap.size + 1) clock c0 seen es clock HH.out.1 HH.out.2.1 HES.out.2.1.1 HJ.out.1 with ⟨hz, hnx⟩ | ⟨e, he, w1, hw1, hnx⟩
              · have HZ := Lib.hid (all_seen es seen hz)
                clear hz
                have HT0 := Lib.hid (show tabOk l0 l1 l2 l3 l4 = okb from by
                  (have hj := HJ.out.2.2); (have hz := HZ.out); (unfold tabOk); (rw [HO0.out, HO1.out, HO2.out, HO3.out])
                  cases okb with
                  | true => exact absurd (hj.1 rfl).1 (by decide)
                  | false => simp)
                cases okb with
                | true =>
                  (go_wp2); (go_ret); (exact ⟨by rw [HR.out, chk, if_pos HBD.out, HT0.out] <;> rfl, HH.out.2.2⟩)
                | false =>
                  (go_wp2); (go_ret); (exact ⟨by rw [HR.out, chk, if_pos HBD.out, HT0.out] <;> rfl, HH.out.2.2⟩)
              · have hee := mem_left he
                (obtain ⟨ka, kb, k1, _, _, k4, _⟩ := HES.out.2.2 e hee.1); (rw [k4] at hnx); (have hlr : rr < wr.heap.size := (Array.getElem?_eq_some_iff.1 HH.out.1).1); (have hlw : rr < w1.heap.size := by rcases hw1 with rfl | rfl <;> exact hlr); (have hBw : Below w.heap.size w w1 := by rcases hw1 with rfl | rfl; exact HH.out.2.2; exact HH.out.2.2.drew); (have hMw : w1.heap[w.heap.size + 1]? = some (.map es clock) := by rcases hw1 with rfl | rfl <;> exact HH.out.2.1); (have hen := run_entry_at (P := Tryd.prog) (ChangeMaps.setBlock w1 rr (.mapIter (some (w.heap.size + 1)) clock (seen.push e.born) clock)) rr (w.heap.size + 1) clock seen es clock e (setB_same _ _ _ hlw) ((setB_other _ _ _ (by have := HLT.out; omega)).trans hMw) hee.1 HES.out.2.1.2.1); (rw [k4] at hen); (have HN := Lib.hid (And.intro (setB_same w1 rr (.mapIter (some (w.heap.size + 1)) clock (seen.push e.born) clock) hlw) (And.intro ((setB_other w1 rr (.mapIter (some (w.heap.size + 1)) clock (seen.push e.born) clock) (by have := HLT.out; omega)).trans hMw) (below_setB hBw rr (.mapIter (some (w.heap.size + 1)) clock (seen.push e.born) clock) (Nat.le_of_lt (Nat.lt_of_succ_lt HLT.out)))))); (have HK := Lib.hid (And.intro k4 (And.intro hee (left_shrinks es seen e he)))); (generalize (cntP l2 ka kb : Int) = v at *); (generalize ekk : e.key = ek at *); (generalize ChangeMaps.setBlock w1 rr (.mapIter (some (w.heap.size + 1)) clock (seen.push e.born) clock) = w2 at *); (clear k4 hee he hlr hlw hBw hMw hw1 k1 ekk)
                cases okb with
                | false =>
                  (go_wp2); (go_roundg ((leftOf es (seen.push e.born)).size))
                  case measure => exact Nat.lt_of_lt_of_le HK.out.2.2 HJ.out.2.1
                  case rel => exact ⟨seen.push e.born, clock, false, rfl, HN, Lib.hid ⟨Nat.le_refl _, Nat.le_refl _, seen_false es seen e false HJ.out.2.2⟩⟩
                | true =>
                  by_cases hv1 : v = 1
                  · have HV := Lib.hid hv1
                    (subst hv1); (go_wp2); (go_roundg ((leftOf es (seen.push e.born)).size))
                    case measure => exact Nat.lt_of_lt_of_le HK.out.2.2 HJ.out.2.1
                    case rel => exact ⟨seen.push e.born, clock, true, rfl, HN, Lib.hid ⟨Nat.le_refl _, Nat.le_refl _, seen_true es seen e false HJ.out.2.2 HK.out.1 HK.out.2.1.1 HES.out.2.1.2.1⟩⟩
                  · have HV := Lib.hid hv1
                    (have hvb : (v == 1) = false := beq_eq_false_iff_ne.2 hv1); (clear hv1); (go_wp2); (go_roundg ((leftOf es (seen.push e.born)).size))
                    case measure => exact Nat.lt_of_lt_of_le HK.out.2.2 HJ.out.2.1
                    case rel => exact ⟨seen.push e.born, clock, false, rfl, HN, Lib.hid ⟨Nat.le_refl _, Nat.le_refl _, seen_bad es seen e false v HK.out.1 HK.out.2.1.1 HV.out⟩⟩
          | true =>
            (have HO3 := Lib.hid hK3.symm); (have HI23 := Lib.hid (hi3 rfl)); (clear hK3 hi3 hd3 hr3 hg3 y0 y1 y2 y3 y4 y5); (have y0 : w23.cell? ⟨w.heap.size, 0, none⟩ = some (.slice A0 l0.length c0) := (Lib.cell_of_heap ((HG23.out.block w.heap.size (by rw [HA.out.2.2.2.1]; omega) hne0).trans HA.out.1) 0).trans rfl); (have y1 : w23.cell? ⟨w.heap.size, 1, none⟩ = some (.slice A1 l1.length c1) := (Lib.cell_of_heap ((HG23.out.block w.heap.size (by rw [HA.out.2.2.2.1]; omega) hne0).trans HA.out.1) 1).trans rfl); (have y2 : w23.cell? ⟨w.heap.size, 2, none⟩ = some (.slice A2 l2.length c2) := (Lib.cell_of_heap ((HG23.out.block w.heap.size (by rw [HA.out.2.2.2.1]; omega) hne0).trans HA.out.1) 2).trans rfl); (have y3 : w23.cell? ⟨w.heap.size, 3, none⟩ = some (.slice A3 l3.length c3) := (Lib.cell_of_heap ((HG23.out.block w.heap.size (by rw [HA.out.2.2.2.1]; omega) hne0).trans HA.out.1) 3).trans rfl); (have y4 : w23.cell? ⟨w.heap.size, 4, none⟩ = some (.slice A4 l4.length c4) := (Lib.cell_of_heap ((HG23.out.block w.heap.size (by rw [HA.out.2.2.2.1]; omega) hne0).trans HA.out.1) 4).trans rfl); (have y5 : w23.cell? ⟨w.heap.size + 1 + 1, 0, none⟩ = some (.map (some (w.heap.size + 1))) := (Lib.cell_of_heap ((HG23.out.block (w.heap.size + 1 + 1) (by rw [HA.out.2.2.2.1]; omega) hne2).trans HA.out.2.2.1) 0).trans rfl)
            have hr4 := rightJoins_calls A4 c4 l4 joinsFine 56 #[] (enters_of Tryd.func56 (by kernel_rfl) rfl) (fun _ W => MapI (w.heap.size + 1) W l2) (some (w.heap.size + 1)) w23 (by have := HBD.out; omega) (Kd.C_below h4 HB23.out) (fun W' h' => HTG.out W' (Lib.grownBy_trans HG23.out h')) (fun B hB => by cases hB; have h9 := HG23.out.size; have h8 := HA.out.2.2.2.1; omega) HI23.out (fun d W W' h hb => h.below hb) (fun W kk x hx hg hi => by
                  (refine Calls.mono (tables_Check_5.calls x.f0 x.f1 x.f2 _ W (joins_f _ _ _)) ?_); (rintro e w' ⟨rfl, hb⟩)
                  exact ⟨rfl, hi.below hb, Lib.grownBy_below (World.grownBy.refl _ _) hb⟩)
            (obtain ⟨K4, hK4⟩ : ∃ K, K = okJoins l4 := ⟨_, rfl⟩); (rw [show rightG _ _ _ _ _ = K4 from hK4.symm] at hr4); (go_wp2_with fail); (refine hr4.mono ?_); (rintro e w24 ⟨rfl, hi4, hd4, hg4⟩); (have HG24 := Lib.hid (Lib.grownBy_trans HG23.out hg4)); (have HB24 := Lib.hid (HBG.out _ HG24.out))
            cases K4 with
            | false =>
              (have HO4 := Lib.hid hK4.symm); (obtain ⟨d4, hd4⟩ := hd4); (have HI24 := Lib.hid hd4); (clear hd4 hK4 hi4 hr4 hg4 y0 y1 y2 y3 y4 y5); (have y0 : w24.cell? ⟨w.heap.size, 0, none⟩ = some (.slice A0 l0.length c0) := (Lib.cell_of_heap ((HG24.out.block w.heap.size (by rw [HA.out.2.2.2.1]; omega) hne0).trans HA.out.1) 0).trans rfl); (have y1 : w24.cell? ⟨w.heap.size, 1, none⟩ = some (.slice A1 l1.length c1) := (Lib.cell_of_heap ((HG24.out.block w.heap.size (by rw [HA.out.2.2.2.1]; omega) hne0).trans HA.out.1) 1).trans rfl); (have y2 : w24.cell? ⟨w.heap.size, 2, none⟩ = some (.slice A2 l2.length c2) := (Lib.cell_of_heap ((HG24.out.block w.heap.size (by rw [HA.out.2.2.2.1]; omega) hne0).trans HA.out.1) 2).trans rfl); (have y3 : w24.cell? ⟨w.heap.size, 3, none⟩ = some (.slice A3 l3.length c3) := (Lib.cell_of_heap ((HG24.out.block w.heap.size (by rw [HA.out.2.2.2.1]; omega) hne0).trans HA.out.1) 3).trans rfl); (have y4 : w24.cell? ⟨w.heap.size, 4, none⟩ = some (.slice A4 l4.length c4) := (Lib.cell_of_heap ((HG24.out.block w.heap.size (by rw [HA.out.2.2.2.1]; omega) hne0).trans HA.out.1) 4).trans rfl); (have y5 : w24.cell? ⟨w.heap.size + 1 + 1, 0, none⟩ = some (.map (some (w.heap.size + 1))) := (Lib.cell_of_heap ((HG24.out.block (w.heap.size + 1 + 1) (by rw [HA.out.2.2.2.1]; omega) hne2).trans HA.out.2.2.1) 0).trans rfl); (obtain ⟨es, clock, hes, hstp, hent, _⟩ := HI24.out); (have hrange := run_range_map (P := Tryd.prog) w24 67 80 3 (w.heap.size + 1) es clock (by kernel_rfl) hes); (have HES := Lib.hid (And.intro hes (And.intro hstp hent))); (have HBR := Lib.hid (show Below w.heap.size w (w24.alloc (.mapIter (some (w.heap.size + 1)) clock #[] clock)) from HB24.out.alloc HB24.out.size _))
              (have HIR := Lib.hid (show (w24.alloc (.mapIter (some (w.heap.size + 1)) clock #[] clock)).heap[w24.heap.size]? = some (.mapIter (some (w.heap.size + 1)) clock #[] clock) from heapNewS _ _)); (have HER := Lib.hid (show (w24.alloc (.mapIter (some (w.heap.size + 1)) clock #[] clock)).heap[w.heap.size + 1]? = some (.map es clock) from (World.grownBy_alloc w24 _ none).block _ (Array.getElem?_eq_some_iff.1 hes).1 (by simp) |>.trans hes)); (have HLT := Lib.hid (show w.heap.size + 1 < w24.heap.size from (Array.getElem?_eq_some_iff.1 hes).1)); (clear hes hstp hent); (go_wp2_with fail); (obtain ⟨rr, hrr⟩ : ∃ rr, rr = w24.heap.size := ⟨_, rfl⟩); (rw [← hrr] at HIR HLT ⊢); (generalize (w24.alloc (.mapIter (some (w.heap.size + 1)) clock #[] clock)) = wi at *); (clear hrr hrange y0 y1 y2 y3 y4)
              go_loopg [4] es.size (fun gg s4 wr => ∃ (seen : Array Nat) (c0 : Nat) (okb : Bool), s4 = .bool okb ∧ Hid (wr.heap[rr]? = some (.mapIter (some (w.heap.size + 1)) clock seen c0) ∧ wr.heap[w.heap.size + 1]? = some (.map es clock) ∧ Below w.heap.size w wr) ∧ Hid (clock ≤ c0 ∧ (leftOf es seen).size ≤ gg ∧ SeenOk es seen false okb))
              case atStart => exact ⟨#[], clock, false, rfl, Lib.hid ⟨HIR.out, HER.out, HBR.out⟩, Lib.hid ⟨Nat.le_refl _, Array.size_filter_le, seen_start es _⟩⟩
              case round =>
                obtain ⟨seen, c0, okb, rfl, HH, HJ⟩ := hrel
                rcases run_next_at (P := Tryd.prog) wr 0 rr (w.heap.size + 1) clock c0 seen es clock HH.out.1 HH.out.2.1 HES.out.2.1.1 HJ.out.1 with ⟨hz, hnx⟩ | ⟨e, he, w1, hw1, hnx⟩
                · have HZ := Lib.hid (all_seen es seen hz)
                  clear hz
                  have HT0 := Lib.hid (show tabOk l0 l1 l2 l3 l4 = okb from by
                    (have hj := HJ.out.2.2); (have hz := HZ.out); (unfold tabOk); (rw [HO0.out, HO1.out, HO2.out, HO3.out, HO4.out])
                    cases okb with
                    | true => exact absurd (hj.1 rfl).1 (by decide)
                    | false => simp)
                  cases okb with
                  | true =>
                    (go_wp2); (go_ret); (exact ⟨by rw [HR.out, chk, if_pos HBD.out, HT0.out] <;> rfl, HH.out.2.2⟩)
                  | false =>
                    (go_wp2); (go_ret); (exact ⟨by rw [HR.out, chk, if_pos HBD.out, HT0.out] <;> rfl, HH.out.2.2⟩)
                · have hee := mem_left he
                  (obtain ⟨ka, kb, k1, _, _, k4, _⟩ := HES.out.2.2 e hee.1); (rw [k4] at hnx); (have hlr : rr < wr.heap.size := (Array.getElem?_eq_some_iff.1 HH.out.1).1); (have hlw : rr < w1.heap.size := by rcases hw1 with rfl | rfl <;> exact hlr); (have hBw : Below w.heap.size w w1 := by rcases hw1 with rfl | rfl; exact HH.out.2.2; exact HH.out.2.2.drew); (have hMw : w1.heap[w.heap.size + 1]? = some (.map es clock) := by rcases hw1 with rfl | rfl <;> exact HH.out.2.1); (have hen := run_entry_at (P := Tryd.prog) (ChangeMaps.setBlock w1 rr (.mapIter (some (w.heap.size + 1)) clock (seen.push e.born) clock)) rr (w.heap.size + 1) clock seen es clock e (setB_same _ _ _ hlw) ((setB_other _ _ _ (by have := HLT.out; omega)).trans hMw) hee.1 HES.out.2.1.2.1); (rw [k4] at hen); (have HN := Lib.hid (And.intro (setB_same w1 rr (.mapIter (some (w.heap.size + 1)) clock (seen.push e.born) clock) hlw) (And.intro ((setB_other w1 rr (.mapIter (some (w.heap.size + 1)) clock (seen.push e.born) clock) (by have := HLT.out; omega)).trans hMw) (below_setB hBw rr (.mapIter (some (w.heap.size + 1)) clock (seen.push e.born) clock) (Nat.le_of_lt (Nat.lt_of_succ_lt HLT.out)))))); (have HK := Lib.hid (And.intro k4 (And.intro hee (left_shrinks es seen e he)))); (generalize (cntP l2 ka kb : Int) = v at *); (generalize ekk : e.key = ek at *); (generalize ChangeMaps.setBlock w1 rr (.mapIter (some (w.heap.size + 1)) clock (seen.push e.born) clock) = w2 at *); (clear k4 hee he hlr hlw hBw hMw hw1 k1 ekk)
                  cases okb with
                  | false =>
                    (go_wp2); (go_roundg ((leftOf es (seen.push e.born)).size))
                    case measure => exact Nat.lt_of_lt_of_le HK.out.2.2 HJ.out.2.1
                    case rel => exact ⟨seen.push e.born, clock, false, rfl, HN, Lib.hid ⟨Nat.le_refl _, Nat.le_refl _, seen_false es seen e false HJ.out.2.2⟩⟩
                  | true =>
                    by_cases hv1 : v = 1
                    · have HV := Lib.hid hv1
                      (subst hv1); (go_wp2); (go_roundg ((leftOf es (seen.push e.born)).size))
                      case measure => exact Nat.lt_of_lt_of_le HK.out.2.2 HJ.out.2.1
                      case rel => exact ⟨seen.push e.born, clock, true, rfl, HN, Lib.hid ⟨Nat.le_refl _, Nat.le_refl _, seen_true es seen e false HJ.out.2.2 HK.out.1 HK.out.2.1.1 HES.out.2.1.2.1⟩⟩
                    · have HV := Lib.hid hv1
                      (have hvb : (v == 1) = false := beq_eq_false_iff_ne.2 hv1); (clear hv1); (go_wp2); (go_roundg ((leftOf es (seen.push e.born)).size))
                      case measure => exact Nat.lt_of_lt_of_le HK.out.2.2 HJ.out.2.1
                      case rel => exact ⟨seen.push e.born, clock, false, rfl, HN, Lib.hid ⟨Nat.le_refl _, Nat.le_refl _, seen_bad es seen e false v HK.out.1 HK.out.2.1.1 HV.out⟩⟩
            | true =>
              (have HO4 := Lib.hid hK4.symm); (have HI24 := Lib.hid (hi4 rfl)); (clear hK4 hi4 hd4 hr4 hg4 y0 y1 y2 y3 y4 y5); (have y0 : w24.cell? ⟨w.heap.size, 0, none⟩ = some (.slice A0 l0.length c0) := (Lib.cell_of_heap ((HG24.out.block w.heap.size (by rw [HA.out.2.2.2.1]; omega) hne0).trans HA.out.1) 0).trans rfl); (have y1 : w24.cell? ⟨w.heap.size, 1, none⟩ = some (.slice A1 l1.length c1) := (Lib.cell_of_heap ((HG24.out.block w.heap.size (by rw [HA.out.2.2.2.1]; omega) hne0).trans HA.out.1) 1).trans rfl); (have y2 : w24.cell? ⟨w.heap.size, 2, none⟩ = some (.slice A2 l2.length c2) := (Lib.cell_of_heap ((HG24.out.block w.heap.size (by rw [HA.out.2.2.2.1]; omega) hne0).trans HA.out.1) 2).trans rfl); (have y3 : w24.cell? ⟨w.heap.size, 3, none⟩ = some (.slice A3 l3.length c3) := (Lib.cell_of_heap ((HG24.out.block w.heap.size (by rw [HA.out.2.2.2.1]; omega) hne0).trans HA.out.1) 3).trans rfl); (have y4 : w24.cell? ⟨w.heap.size, 4, none⟩ = some (.slice A4 l4.length c4) := (Lib.cell_of_heap ((HG24.out.block w.heap.size (by rw [HA.out.2.2.2.1]; omega) hne0).trans HA.out.1) 4).trans rfl); (have y5 : w24.cell? ⟨w.heap.size + 1 + 1, 0, none⟩ = some (.map (some (w.heap.size + 1))) := (Lib.cell_of_heap ((HG24.out.block (w.heap.size + 1 + 1) (by rw [HA.out.2.2.2.1]; omega) hne2).trans HA.out.2.2.1) 0).trans rfl); (obtain ⟨es, clock, hes, hstp, hent, _⟩ := HI24.out); (have hrange := run_range_map (P := Tryd.prog) w24 67 80 3 (w.heap.size + 1) es clock (by kernel_rfl) hes); (have HES := Lib.hid (And.intro hes (And.intro hstp hent))); (have HBR := Lib.hid (show Below w.heap.size w (w24.alloc (.mapIter (some (w.heap.size + 1)) clock #[] clock)) from HB24.out.alloc HB24.out.size _))
              (have HIR := Lib.hid (show (w24.alloc (.mapIter (some (w.heap.size + 1)) clock #[] clock)).heap[w24.heap.size]? = some (.mapIter (some (w.heap.size + 1)) clock #[] clock) from heapNewS _ _)); (have HER := Lib.hid (show (w24.alloc (.mapIter (some (w.heap.size + 1)) clock #[] clock)).heap[w.heap.size + 1]? = some (.map es clock) from (World.grownBy_alloc w24 _ none).block _ (Array.getElem?_eq_some_iff.1 hes).1 (by simp) |>.trans hes)); (have HLT := Lib.hid (show w.heap.size + 1 < w24.heap.size from (Array.getElem?_eq_some_iff.1 hes).1)); (clear hes hstp hent); (go_wp2_with fail); (obtain ⟨rr, hrr⟩ : ∃ rr, rr = w24.heap.size := ⟨_, rfl⟩); (rw [← hrr] at HIR HLT ⊢); (generalize (w24.alloc (.mapIter (some (w.heap.size + 1)) clock #[] clock)) = wi at *); (clear hrr hrange y0 y1 y2 y3 y4)
              go_loopg [4] es.size (fun gg s4 wr => ∃ (seen : Array Nat) (c0 : Nat) (okb : Bool), s4 = .bool okb ∧ Hid (wr.heap[rr]? = some (.mapIter (some (w.heap.size + 1)) clock seen c0) ∧ wr.heap[w.heap.size + 1]? = some (.map es clock) ∧ Below w.heap.size w wr) ∧ Hid (clock ≤ c0 ∧ (leftOf es seen).size ≤ gg ∧ SeenOk es seen true okb))
              case atStart => exact ⟨#[], clock, true, rfl, Lib.hid ⟨HIR.out, HER.out, HBR.out⟩, Lib.hid ⟨Nat.le_refl _, Array.size_filter_le, seen_start es _⟩⟩
              case round =>
                obtain ⟨seen, c0, okb, rfl, HH, HJ⟩ := hrel
                rcases run_next_at (P := Tryd.prog) wr 0 rr (w.heap.size + 1) clock c0 seen es clock HH.out.1 HH.out.2.1 HES.out.2.1.1 HJ.out.1 with ⟨hz, hnx⟩ | ⟨e, he, w1, hw1, hnx⟩
                · have HZ := Lib.hid (all_seen es seen hz)
                  clear hz
                  have HT0 := Lib.hid (show tabOk l0 l1 l2 l3 l4 = okb from by
                    (have hj := HJ.out.2.2); (have hz := HZ.out); (have ho := once_iff HI24.out HES.out.1); (unfold tabOk); (rw [HO0.out, HO1.out, HO2.out, HO3.out, HO4.out])
                    cases okb with
                    | true =>
                      have h2 := (hj.1 rfl).2
                      rw [ho.1 (fun e he => h2 e he (hz e he))]; rfl
                    | false =>
                      cases hop : onceP l2 with
                      | false => rfl
                      | true => exact absurd (hj.2 ⟨rfl, fun e he _ => ho.2 hop e he⟩) (by decide))
                  cases okb with
                  | true =>
                    (go_wp2); (go_ret); (exact ⟨by rw [HR.out, chk, if_pos HBD.out, HT0.out] <;> rfl, HH.out.2.2⟩)
                  | false =>
                    (go_wp2); (go_ret); (exact ⟨by rw [HR.out, chk, if_pos HBD.out, HT0.out] <;> rfl, HH.out.2.2⟩)
                · have hee := mem_left he
                  (obtain ⟨ka, kb, k1, _, _, k4, _⟩ := HES.out.2.2 e hee.1); (rw [k4] at hnx); (have hlr : rr < wr.heap.size := (Array.getElem?_eq_some_iff.1 HH.out.1).1); (have hlw : rr < w1.heap.size := by rcases hw1 with rfl | rfl <;> exact hlr); (have hBw : Below w.heap.size w w1 := by rcases hw1 with rfl | rfl; exact HH.out.2.2; exact HH.out.2.2.drew); (have hMw : w1.heap[w.heap.size + 1]? = some (.map es clock) := by rcases hw1 with rfl | rfl <;> exact HH.out.2.1); (have hen := run_entry_at (P := Tryd.prog) (ChangeMaps.setBlock w1 rr (.mapIter (some (w.heap.size + 1)) clock (seen.push e.born) clock)) rr (w.heap.size + 1) clock seen es clock e (setB_same _ _ _ hlw) ((setB_other _ _ _ (by have := HLT.out; omega)).trans hMw) hee.1 HES.out.2.1.2.1); (rw [k4] at hen); (have HN := Lib.hid (And.intro (setB_same w1 rr (.mapIter (some (w.heap.size + 1)) clock (seen.push e.born) clock) hlw) (And.intro ((setB_other w1 rr (.mapIter (some (w.heap.size + 1)) clock (seen.push e.born) clock) (by have := HLT.out; omega)).trans hMw) (below_setB hBw rr (.mapIter (some (w.heap.size + 1)) clock (seen.push e.born) clock) (Nat.le_of_lt (Nat.lt_of_succ_lt HLT.out)))))); (have HK := Lib.hid (And.intro k4 (And.intro hee (left_shrinks es seen e he)))); (generalize (cntP l2 ka kb : Int) = v at *); (generalize ekk : e.key = ek at *); (generalize ChangeMaps.setBlock w1 rr (.mapIter (some (w.heap.size + 1)) clock (seen.push e.born) clock) = w2 at *); (clear k4 hee he hlr hlw hBw hMw hw1 k1 ekk)
                  cases okb with
                  | false =>
                    (go_wp2); (go_roundg ((leftOf es (seen.push e.born)).size))
                    case measure => exact Nat.lt_of_lt_of_le HK.out.2.2 HJ.out.2.1
                    case rel => exact ⟨seen.push e.born, clock, false, rfl, HN, Lib.hid ⟨Nat.le_refl _, Nat.le_refl _, seen_false es seen e true HJ.out.2.2⟩⟩
                  | true =>
                    by_cases hv1 : v = 1
                    · have HV := Lib.hid hv1
                      (subst hv1); (go_wp2); (go_roundg ((leftOf es (seen.push e.born)).size))
                      case measure => exact Nat.lt_of_lt_of_le HK.out.2.2 HJ.out.2.1
                      case rel => exact ⟨seen.push e.born, clock, true, rfl, HN, Lib.hid ⟨Nat.le_refl _, Nat.le_refl _, seen_true es seen e true HJ.out.2.2 HK.out.1 HK.out.2.1.1 HES.out.2.1.2.1⟩⟩
                    · have HV := Lib.hid hv1
                      (have hvb : (v == 1) = false := beq_eq_false_iff_ne.2 hv1); (clear hv1); (go_wp2); (go_roundg ((leftOf es (seen.push e.born)).size))
                      case measure => exact Nat.lt_of_lt_of_le HK.out.2.2 HJ.out.2.1
                      case rel => exact ⟨seen.push e.born, clock, false, rfl, HN, Lib.hid ⟨Nat.le_refl _, Nat.le_refl _, seen_bad es seen e true v HK.out.1 HK.out.2.1.1 HV.out⟩⟩
  · have hbd := fun h => hm (hMi.2 h)
    (have hmz : 1024 < M := by omega); (have HBD := Lib.hid hbd); (clear hMi hbd); (go_enter Tryd.func27, Tryd.ntmps27); (go_wp2); (go_ret); (exact ⟨by rw [HR.out, chk, if_neg HBD.out] <;> rfl, HB1.out⟩)
end Go.Proofs.YtmjnipifpeehgaaDoor.Q
