/- nfc's taker: put. -/
import Derived.Test.YtmjnipifpeehgaaDoorSNOrd
import Derived.Test.YtmjnipifpeehgaaDoorSB4
import Derived.Test.YtmjnipifpeehgaaDoorSNSpClass
import Derived.OwnWalk
set_option linter.unusedSimpArgs false
set_option linter.unusedVariables false
namespace Go.Proofs.YtmjnipifpeehgaaDoor.Q
open Go.RowKit Go.Proofs.YtmjnipifpeehgaaDoorW.PrintWords Go.Proofs.YtmjnipifpeehgaaDoorW.PrintLast Go.Proofs.YtmjnipifpeehgaaDoorW.PrintMore
/-- the taker in block kb, its row, whether it is full; X is all that was put -/
def TakI (kb base : Nat) (t0 t1 t2 t3 t4 : Value) (W : World) (v : Value) (fl : Bool) (X : List Int) : Prop :=
  W.heap[kb]? = some (.cells #[t0, t1, t2, t3, t4, v, .bool fl] 56 (0, 0)) ∧ base ≤ kb ∧ (∀ i, v.ownBlock = some i → base ≤ i ∧ i ≠ kb ∧ i < W.heap.size) ∧
    (∃ n c a, v = .slice a n c) ∧ ∃ Y : List Int, Y.length ≤ 4096 ∧ Kd.R (Kd.int .i32) 21 W base (fun k => k ≠ kb) v Y ∧ ((fl = false ∧ Y = X) ∨ (fl = true ∧ 4096 < X.length))
/-- what a step of the taker leaves as it was -/
structure Stp (kb : Nat) (W : World) (v : Value) (W' : World) (v' : Value) : Prop where
  os : W'.os = W.os
  tape : W'.tape = W.tape
  output : W'.output = W.output
  size : W.heap.size ≤ W'.heap.size
  block : ∀ i, i < W.heap.size → i ≠ kb → some i ≠ v.ownBlock → W'.heap[i]? = W.heap[i]?
  own : ∀ i, v'.ownBlock = some i → v.ownBlock = some i ∨ W.heap.size ≤ i
theorem Stp.refl (kb : Nat) (W : World) (v : Value) : Stp kb W v W v := ⟨rfl, rfl, rfl, Nat.le_refl _, fun _ _ _ _ => rfl, fun _ h => .inl h⟩
theorem Stp.trans {kb : Nat} {W W1 W2 : World} {v v1 v2 : Value} (h : Stp kb W v W1 v1) (k : Stp kb W1 v1 W2 v2) : Stp kb W v W2 v2 :=
  ⟨k.os.trans h.os, k.tape.trans h.tape, k.output.trans h.output, Nat.le_trans h.size k.size,
   fun i hi h1 h2 => (k.block i (Nat.lt_of_lt_of_le hi h.size) h1 (fun e => by
      rcases h.own i e.symm with h3 | h3
      · exact h2 h3.symm
      · omega)).trans (h.block i hi h1 h2),
   fun i hi => by
    rcases k.own i hi with h3 | h3
    · exact h.own i h3
    · exact .inr (Nat.le_trans h.size h3)⟩
theorem Stp.below {kb base : Nat} {W W' : World} {v v' : Value} (h : Stp kb W v W' v') (hk : base ≤ kb) (ho : ∀ i, v.ownBlock = some i → base ≤ i) (hb : base ≤ W.heap.size) : Below base W W' :=
  ⟨h.os, h.tape, h.output, h.size, fun k hk' => h.block k (Nat.lt_of_lt_of_le hk' hb) (by omega) (fun e => by have := ho k e.symm; omega)⟩
theorem Stp.of_below {kb : Nat} {W W' : World} {v : Value} (h : Below W.heap.size W W') : Stp kb W v W' v := ⟨h.os, h.tape, h.output, h.size, fun i hi _ _ => h.block i hi, fun _ h => .inl h⟩
theorem TakI.below {kb base : Nat} {t0 t1 t2 t3 t4 : Value} {W W' : World} {v : Value} {fl : Bool} {X : List Int} (h : TakI kb base t0 t1 t2 t3 t4 W v fl X) (hb : Below W.heap.size W W') : TakI kb base t0 t1 t2 t3 t4 W' v fl X := by
  obtain ⟨h1, h2, h3, h4, h5⟩ := h
  refine ⟨(hb.block kb (Array.getElem?_eq_some_iff.1 h1).1).trans h1, h2, fun i hi => ⟨(h3 i hi).1, (h3 i hi).2.1, Nat.lt_of_lt_of_le (h3 i hi).2.2 hb.size⟩, h4, ?_⟩
  obtain ⟨Y, a, b, c⟩ := h5
  exact ⟨Y, a, Kd.R_below b hb, c⟩
theorem World.setCell_size' (W : World) (a : Addr) (v : Value) : (W.setCell a v).heap.size = W.heap.size := by simp [World.setCell]
/-- the taker behind a step -/
def TakP (kb base : Nat) (t0 t1 t2 t3 t4 : Value) (W : World) (v : Value) (w' : World) (X : List Int) : Prop := ∃ v' fl', TakI kb base t0 t1 t2 t3 t4 w' v' fl' X ∧ Stp kb W v w' v'
/-- a literal row -/
theorem litC {W : World} {g : Nat} {L : List Int} (h : W.heap[g]? = some (.cells (L.map (Value.int .i32)).toArray 21 (0, 0))) (hl : L.length ≤ 4096) : Kd.C (Kd.int .i32) W (some ⟨g, 0, none⟩) L.length L := by
  have hr : I.RowI g L.length W L := ⟨_, h, by simp, Nat.le_refl _, by unfold maxLen; omega, fun j x hj => by simp [hj]⟩
  exact (Kd.R_reads' (hr.to_R (Nat.zero_le g))).2.2
set_option maxHeartbeats 4000000 in
set_option maxRecDepth 100000 in
theorem put_calls (kb base : Nat) (t0 t1 t2 t3 t4 : Value) (W : World) (v : Value) (fl : Bool) (X L : List Int) (A : Option Addr) (c : Nat) (h : TakI kb base t0 t1 t2 t3 t4 W v fl X) (hC : Kd.C (Kd.int .i32) W A L.length L) (hL : L.length ≤ 4096) (hLc : L.length ≤ c) (hbW : base ≤ W.heap.size) :
    Calls Tryd.prog 58 #[.pointer (some ⟨kb, 0, none⟩), .slice A L.length c] W fun e w' => e = .returned (.tuple #[]) ∧ TakP kb base t0 t1 t2 t3 t4 W v w' (X ++ L) := by
  obtain ⟨h1, h2, h3, h4, Y, hX, hR, hY⟩ := h
  have HY := Lib.hid hY
  clear hY
  · obtain ⟨n, cv, av, rfl⟩ := h4
    (obtain ⟨rfl, hncv, _⟩ := Kd.R_reads' hR); (have z5 : W.cell? ⟨kb, 5, none⟩ = some (.slice av Y.length cv) := (Lib.cell_of_heap h1 5).trans rfl); (have z6 : W.cell? ⟨kb, 6, none⟩ = some (.bool fl) := (Lib.cell_of_heap h1 6).trans rfl); (have f5 : W.frozen? ⟨kb, 5, none⟩ = false := Lib.frozen_of_heap h1 5); (have f6 : W.frozen? ⟨kb, 6, none⟩ = false := Lib.frozen_of_heap h1 6); (have hkb := (Array.getElem?_eq_some_iff.1 h1).1); (have hwr : IntKind.i64.wrap ((Y.length : Int) + (L.length : Int)) = (Y.length : Int) + (L.length : Int) := by rw [IntKind.wrap_i64]; omega); (have H := Lib.hid (And.intro h1 (And.intro h2 (And.intro h3 hR))))
    by_cases hbig : 4096 < Y.length + L.length
    · have hbz : (4096 : Int) < (Y.length : Int) + (L.length : Int) := by omega
      (clear h1 h3 hR hC); (go_enter Tryd.func58, Tryd.ntmps58); (go_wp2)
      (try simp only [Exit.inBlock, Exit.then])
      refine bodyPost_ret (results_none rfl _ _ _) rfl ?_
      refine ⟨rfl, .slice av Y.length cv, true, ⟨heapSetS (j := 6) (.bool true) H.out.1, H.out.2.1, fun i hi => ⟨(H.out.2.2.1 i hi).1, (H.out.2.2.1 i hi).2.1, by rw [World.setCell_size']; exact (H.out.2.2.1 i hi).2.2⟩, ⟨_, _, _, rfl⟩, Y, hX, Kd.R_far H.out.2.2.2 (fun k hk => hk) _, .inr ⟨rfl, ?_⟩⟩, ⟨rfl, rfl, rfl, by rw [World.setCell_size']; exact Nat.le_refl _, fun i hi h1 h2 => Below.heap_setCell _ _ _ _ h1, fun i hi => .inl hi⟩⟩
      rw [List.length_append]
      rcases HY.out with ⟨_, rfl⟩ | ⟨_, h⟩
      · exact hbig
      · omega
    · have hbz : ¬ (4096 : Int) < (Y.length : Int) + (L.length : Int) := by omega
      (have HC := Lib.hid hC); (have HLL := Lib.hid (show Y.length + L.length ≤ 4096 by omega)); (clear h1 h3 hR hC); (go_enter Tryd.func58, Tryd.ntmps58)
      go_wp2_with (first | ((with_reducible refine gate_dst (N := 22) rfl ?_); refine Kd.R_append_rows (Kd.int .i32) (w0 := W) base rfl (.tmp 20) (.tmp 21) 29 21 (.int .i32 0) 4 rfl Tryd.underlying29 info21 rfl (by decide) (by omega) (.slice av Y.length cv) Y L _ _ _ (fun k => k ≠ kb) (fun _ => False) rfl rfl H.out.2.2.2 HC.out (fun _ _ h => h) (fun _ h => h.elim) (fun k hk => by omega) (Below.refl base W) hbW (by have := HLL.out; omega) ?_; intro v1 w1 ho hb hg hat; have hB1 := (hg.block kb hkb (fun e => (H.out.2.2.1 kb e.symm).2.1 rfl)).trans H.out.1; have y5 : w1.cell? ⟨kb, 5, none⟩ = some (.slice av Y.length cv) := (Lib.cell_of_heap hB1 5).trans rfl; have yf : w1.frozen? ⟨kb, 5, none⟩ = false := Lib.frozen_of_heap hB1 5; obtain ⟨n1, a1, rfl⟩ : ∃ c a, v1 = .slice a (Y ++ L).length c := (by obtain ⟨a, c, e⟩ := Kd.R_slice ho; exact ⟨c, a, e⟩); have H1 := Lib.hid (And.intro hB1 (And.intro ho (And.intro hg hat))); clear hB1 ho hb hg hat))
      (go_wp2); (go_end0); (obtain ⟨e1, ho, hg, hat⟩ := H1.out)
      have hle : ∀ u, (w1.setCell ⟨kb, 5, none⟩ u).heap.size = w1.heap.size := fun u => World.setCell_size' _ _ _
      rw [← List.length_append]
      refine ⟨rfl, .slice a1 (Y ++ L).length n1, fl, ⟨heapSetS (j := 5) _ e1, H.out.2.1, fun i hi => ⟨?_, ?_, ?_⟩, ⟨_, _, _, rfl⟩, Y ++ L, by rw [List.length_append]; exact HLL.out, Kd.R_far ho (fun k hk => hk) _, ?_⟩, ⟨hg.os, hg.tape, hg.output, by rw [hle]; exact hg.size, fun i hi h1 h2 => (Below.heap_setCell _ _ _ _ h1).trans (hg.block i hi h2), fun i hi => ?_⟩⟩
      · exact Kd.R_base ho i hi
      · exact ho.1 i hi
      · rw [hle]; exact Kd.R_lt ho i hi
      · rcases HY.out with ⟨rfl, rfl⟩ | ⟨rfl, h⟩
        · exact .inl ⟨rfl, rfl⟩
        · exact .inr ⟨rfl, by rw [List.length_append]; omega⟩
      · rcases hat with h | ⟨b, h, hb⟩
        · exact .inl (h ▸ hi)
        · rw [h] at hi; cases hi; exact .inr hb
theorem belowA (W : World) (o : Obj) : Below W.heap.size W (W.alloc o) := (Below.refl _ W).alloc (Nat.le_refl _) o
def sylS (r : Int) : Int := wrap32 (r - 44032)
def isSyl (r : Int) : Bool := decide (0 ≤ sylS r) && decide (sylS r < 11172)
theorem syl_f (r : Int) : nfc_syllable.f r = some (sylS r, isSyl r) := by
  unfold nfc_syllable.f isSyl sylS
  split
  · rename_i h; rw [decide_eq_true (show 0 ≤ wrap32 (r - 44032) from h)]; rfl
  · rename_i h; rw [decide_eq_false (show ¬ 0 ≤ wrap32 (r - 44032) from h)]; rfl
theorem syl_calls (r : Int) (w : World) : Calls Tryd.prog 57 #[.int .i32 r] w fun e w' => e = .returned (.tuple #[.int .i32 (sylS r), .bool (isSyl r)]) ∧ Below w.heap.size w w' :=
  (nfc_syllable.calls r _ _ w (syl_f r)).mono fun _ _ h => ⟨h.1, h.2.below⟩
/-- a rune, taken apart -/
def sylL (s : Int) : List Int := [4352 + s / 588, 4449 + s % 588 / 28] ++ if s % 28 = 0 then [] else [4519 + s % 28]
def dec (l : List S45) : Nat → Int → List Int
  | 0, r => [r]
  | f + 1, r => if isSyl r then sylL (sylS r) else match pairOf l r with
    | none => [r]
    | some p => dec l f p.f1 ++ if p.f2 = 0 then [] else dec l f p.f2
theorem TakP.to {kb base : Nat} {t0 t1 t2 t3 t4 : Value} {W W1 W2 : World} {v v1 : Value} {X : List Int} (h : TakP kb base t0 t1 t2 t3 t4 W1 v1 W2 X) (hs : Stp kb W v W1 v1) : TakP kb base t0 t1 t2 t3 t4 W v W2 X := by
  obtain ⟨v', fl', h1, h2⟩ := h
  exact ⟨v', fl', h1, hs.trans h2⟩
set_option maxHeartbeats 8000000 in
set_option maxRecDepth 100000 in
theorem take_calls (kb base : Nat) (s0 s1 s3 s4 : Value) (A2 : Option Addr) (c2 : Nat) (w0 : World) (l : List S45) (hn : l.length ≤ 1073741824) (hC : Kd.C k45 w0 A2 l.length l) (hb0 : w0.heap.size ≤ base) (hwell : ∀ x ∈ l, x.f1 < x.f0 ∧ x.f2 < x.f0 ∧ 0 ≤ x.f1 ∧ 0 ≤ x.f2) :
    ∀ (f : Nat) (r : Int) (W : World) (v : Value) (fl : Bool) (X : List Int), r.toNat < f → TakI kb base s0 s1 (.slice A2 l.length c2) s3 s4 W v fl X → Below w0.heap.size w0 W → base ≤ W.heap.size →
      Calls Tryd.prog 28 #[.pointer (some ⟨kb, 0, none⟩), .int .i32 r] W fun e w' => e = .returned (.tuple #[]) ∧ TakP kb base s0 s1 (.slice A2 l.length c2) s3 s4 W v w' (X ++ dec l f r) := by
  intro f
  induction f with
  | zero => intro r W v fl X h; omega
  | succ f ih =>
    (intro r W v fl X hrf hTak hB hbW); (have IH := Lib.hid ih); (have HW := Lib.hid hwell); (have HN := Lib.hid hn); (have HC := Lib.hid hC); (have HT := Lib.hid hTak); (have HBB := Lib.hid hB); (clear ih hwell hC hTak hB hn); (have h1 := HT.out.1); (obtain ⟨nv, cv, av, rfl⟩ := HT.out.2.2.2.1); (have hkb := (Array.getElem?_eq_some_iff.1 h1).1); (have z6 : W.cell? ⟨kb, 6, none⟩ = some (.bool fl) := (Lib.cell_of_heap h1 6).trans rfl)
    cases fl with
    | true =>
      have hend : TakP kb base s0 s1 (.slice A2 l.length c2) s3 s4 W (.slice av nv cv) W (X ++ dec l (f + 1) r) := by
        (obtain ⟨q1, q2, q3, q4, Y, q5, q6, q7⟩ := HT.out); (refine ⟨_, true, ⟨q1, q2, q3, q4, Y, q5, q6, .inr ⟨rfl, ?_⟩⟩, Stp.refl _ _ _⟩)
        rcases q7 with ⟨h, _⟩ | ⟨_, h⟩
        · cases h
        · rw [List.length_append]; omega
      (have HE := Lib.hid hend); (clear h1 hend); (go_enter Tryd.func28, Tryd.ntmps28); (go_wp2)
      (try simp only [Exit.inBlock, Exit.then])
      (refine bodyPost_ret (results_none rfl _ _ _) rfl ?_); (exact ⟨rfl, HE.out⟩)
    | false =>
      (have hsy := syl_calls r W); (obtain ⟨s, hs⟩ : ∃ s, s = sylS r := ⟨_, rfl⟩); (rw [← hs] at hsy); (have HS := Lib.hid hs); (clear hs h1)
      cases hy : isSyl r with
      | true =>
        rw [hy] at hsy
        have hsb : 0 ≤ s ∧ s < 11172 := by
          (have := hy); (unfold isSyl at this); (rw [← HS.out] at this)
          simpa using this
        (have HY := Lib.hid hy); (clear hy); (go_enter Tryd.func28, Tryd.ntmps28); (go_wp2_with fail); (refine hsy.mono ?_); (rintro e w1 ⟨rfl, hb1⟩); (have HD := Lib.hid (show dec l (f + 1) r = [4352 + s / 588, 4449 + s % 588 / 28] ++ if s % 28 = 0 then [] else [4519 + s % 28] from by conv => lhs; unfold dec; rw [HY.out, if_pos rfl]; unfold sylL; rw [← HS.out])); (have hput := put_calls kb base s0 s1 (.slice A2 l.length c2) s3 s4 _ (.slice av nv cv) false X [4352 + s / 588, 4449 + s % 588 / 28] (some ⟨w1.heap.size, 0, none⟩) 2 ((HT.out.below hb1).below (belowA w1 (.cells #[.int .i32 (4352 + s / 588), .int .i32 (4449 + s % 588 / 28)] 21))) (litC (heapNewS w1 (.cells #[.int .i32 (4352 + s / 588), .int .i32 (4449 + s % 588 / 28)] 21)) (by simp)) (by simp) (Nat.le_refl _) (by have := hb1.size; simp; omega)); (have HSS := Lib.hid ((Stp.of_below (kb := kb) (v := .slice av nv cv) hb1).trans (Stp.of_below (belowA w1 (.cells #[.int .i32 (4352 + s / 588), .int .i32 (4449 + s % 588 / 28)] 21))))); (clear hsy hb1 z6); (go_wp2_with fail); (refine hput.mono ?_); (rintro e w3 ⟨rfl, v3, fl3, hT3, hS3⟩); (have HT3 := Lib.hid hT3); (have HS3 := Lib.hid (HSS.out.trans hS3)); (clear hput hT3 hS3)
        by_cases hz : s % 28 = 0
        · have hzb : (s % 28 != 0) = false := by rw [hz]; rfl
          (have HZ := Lib.hid hz); (clear hz); (go_wp2)
          (try simp only [Exit.inBlock, Exit.then])
          (refine bodyPost_ret (results_none rfl _ _ _) rfl ?_); (exact ⟨rfl, v3, fl3, by rw [HD.out, if_pos HZ.out, List.append_nil]; exact HT3.out, HS3.out⟩)
        · have hzb : (s % 28 != 0) = true := bne_iff_ne.2 hz
          (have HZ := Lib.hid hz); (have hput2 := put_calls kb base s0 s1 (.slice A2 l.length c2) s3 s4 _ v3 fl3 (X ++ [4352 + s / 588, 4449 + s % 588 / 28]) [4519 + s % 28] (some ⟨w3.heap.size, 0, none⟩) 1 (HT3.out.below (belowA w3 (.cells #[.int .i32 (4519 + s % 28)] 21))) (litC (heapNewS w3 (.cells #[.int .i32 (4519 + s % 28)] 21)) (by simp)) (by simp) (Nat.le_refl _) (by have := HS3.out.size; simp; omega)); (have HSA := Lib.hid (HS3.out.trans (Stp.of_below (belowA w3 (.cells #[.int .i32 (4519 + s % 28)] 21))))); (clear hz); (go_wp2_with fail); (refine hput2.mono ?_); (rintro e w4 ⟨rfl, hP4⟩); (have HP4 := Lib.hid (hP4.to HSA.out)); (clear hput2 hP4); (go_wp2)
          (try simp only [Exit.inBlock, Exit.then])
          (refine bodyPost_ret (results_none rfl _ _ _) rfl ?_); (exact ⟨rfl, by rw [HD.out, if_neg HZ.out, ← List.append_assoc]; exact HP4.out⟩)
      | false =>
        (rw [hy] at hsy); (have HY := Lib.hid hy); (clear hy); (go_enter Tryd.func28, Tryd.ntmps28); (go_wp2_with fail); (refine hsy.mono ?_); (rintro e w1 ⟨rfl, hb1⟩); (have hT1 := HT.out.below hb1); (have h1 := hT1.1); (have z0 : w1.cell? ⟨kb, 0, none⟩ = some s0 := (Lib.cell_of_heap h1 0).trans rfl); (have z1 : w1.cell? ⟨kb, 1, none⟩ = some s1 := (Lib.cell_of_heap h1 1).trans rfl); (have z2 : w1.cell? ⟨kb, 2, none⟩ = some (.slice A2 l.length c2) := (Lib.cell_of_heap h1 2).trans rfl); (have z3 : w1.cell? ⟨kb, 3, none⟩ = some s3 := (Lib.cell_of_heap h1 3).trans rfl); (have z4 : w1.cell? ⟨kb, 4, none⟩ = some s4 := (Lib.cell_of_heap h1 4).trans rfl); (have hB1 := HBB.out.trans (hb1.mono HBB.out.size)); (have hpr := pair_any s0 s1 s3 s4 A2 c2 l r w1 HN.out (Kd.C_below HC.out hB1)); (have HT1 := Lib.hid hT1); (have HB1 := Lib.hid hB1); (have HS1 := Lib.hid (show Stp kb W (.slice av nv cv) w1 (.slice av nv cv) from Stp.of_below hb1)); (clear hT1 h1 hB1 hb1 hsy z6); (go_wp2_with fail); (refine hpr.mono ?_); (rintro e w2 ⟨hp1, hp2, hb2⟩); (have HT2 := Lib.hid (HT1.out.below hb2)); (have HB2 := Lib.hid (HB1.out.trans (hb2.mono HB1.out.size))); (have HS2 := Lib.hid (HS1.out.trans (Stp.of_below hb2))); (clear hpr hb2 z0 z1 z2 z3 z4 HT1 HB1 HS1)
        cases hpo : pairOf l r with
        | none =>
          (obtain rfl := hp2 hpo); (have HD := Lib.hid (show dec l (f + 1) r = [r] from by unfold dec; rw [HY.out, if_neg (by decide), hpo])); (have hszp : (w2.alloc (.cells #[.int .i32 0, .int .i32 0, .int .i32 0, .bool false] 45)).heap.size = w2.heap.size + 1 := by simp); (have hlit := heapNewS (w2.alloc (.cells #[.int .i32 0, .int .i32 0, .int .i32 0, .bool false] 45)) (.cells #[.int .i32 r] 21)); (rw [hszp] at hlit); (have hput := put_calls kb base s0 s1 (.slice A2 l.length c2) s3 s4 _ (.slice av nv cv) false X [r] (some ⟨w2.heap.size + 1, 0, none⟩) 1 ((HT2.out.below (belowA w2 (.cells #[.int .i32 0, .int .i32 0, .int .i32 0, .bool false] 45))).below (belowA _ (.cells #[.int .i32 r] 21))) (litC hlit (by simp)) (by simp) (Nat.le_refl _) (by have := HS2.out.size; simp; omega)); (have HSS := Lib.hid (HS2.out.trans ((Stp.of_below (belowA w2 (.cells #[.int .i32 0, .int .i32 0, .int .i32 0, .bool false] 45))).trans (Stp.of_below (belowA _ (.cells #[.int .i32 r] 21)))))); (clear hp1 hp2 hpo hlit hszp); (go_wp2_with fail); (refine hput.mono ?_); (rintro e w3 ⟨rfl, hP3⟩); (have HP3 := Lib.hid (hP3.to HSS.out)); (clear hput hP3); (go_wp2)
          (try simp only [Exit.inBlock, Exit.then])
          (refine bodyPost_ret (results_none rfl _ _ _) rfl ?_); (exact ⟨rfl, by rw [HD.out]; exact HP3.out⟩)
        | some p =>
          (obtain rfl := hp1 p hpo); (have hmem := List.mem_of_find?_eq_some hpo); (have hr : p.f0 = r := by have := List.find?_some hpo; simpa using this); (have HD := Lib.hid (show dec l (f + 1) r = dec l f p.f1 ++ if p.f2 = 0 then [] else dec l f p.f2 from by conv => lhs; unfold dec; rw [HY.out, if_neg (by decide), hpo])); (have HP := Lib.hid (HW.out p hmem)); (have HR := Lib.hid hr); (have hbx := heapNewS w2 (.cells #[.int .i32 p.f0, .int .i32 p.f1, .int .i32 p.f2, .bool p.f3] 45)); (have c1 : (w2.alloc (.cells #[.int .i32 p.f0, .int .i32 p.f1, .int .i32 p.f2, .bool p.f3] 45)).cell? ⟨w2.heap.size, 1, none⟩ = some (.int .i32 p.f1) := (Lib.cell_of_heap hbx 1).trans rfl); (have c2' : (w2.alloc (.cells #[.int .i32 p.f0, .int .i32 p.f1, .int .i32 p.f2, .bool p.f3] 45)).cell? ⟨w2.heap.size, 2, none⟩ = some (.int .i32 p.f2) := (Lib.cell_of_heap hbx 2).trans rfl); (have HBX := Lib.hid hbx); (have hIH := IH.out p.f1 _ (.slice av nv cv) false X (by have := HP.out; have := HR.out; omega) (HT2.out.below (belowA w2 (.cells #[.int .i32 p.f0, .int .i32 p.f1, .int .i32 p.f2, .bool p.f3] 45))) (HB2.out.trans ((belowA w2 (.cells #[.int .i32 p.f0, .int .i32 p.f1, .int .i32 p.f2, .bool p.f3] 45)).mono HB2.out.size)) (by have := HS2.out.size; simp; omega)); (have HSS := Lib.hid (HS2.out.trans (Stp.of_below (v := .slice av nv cv) (belowA w2 (.cells #[.int .i32 p.f0, .int .i32 p.f1, .int .i32 p.f2, .bool p.f3] 45))))); (have HLT := Lib.hid (show w2.heap.size < (w2.alloc (.cells #[.int .i32 p.f0, .int .i32 p.f1, .int .i32 p.f2, .bool p.f3] 45)).heap.size from by simp))
          have HNE := Lib.hid (show w2.heap.size ≠ kb ∧ some w2.heap.size ≠ (Value.slice av nv cv).ownBlock from ⟨fun e => by have := (Array.getElem?_eq_some_iff.1 HT2.out.1).1; omega, fun e => by have := (HT2.out.2.2.1 _ e.symm).2.2; omega⟩)
          (have HBA := Lib.hid (HB2.out.trans ((belowA w2 (.cells #[.int .i32 p.f0, .int .i32 p.f1, .int .i32 p.f2, .bool p.f3] 45)).mono HB2.out.size))); (clear hp1 hp2 hpo hmem hr hbx); (go_wp2_with fail); (refine hIH.mono ?_); (rintro e w3 ⟨rfl, v3, fl3, hT3, hS3⟩); (have hbx3 := (hS3.block _ HLT.out HNE.out.1 HNE.out.2).trans HBX.out); (have y2 : w3.cell? ⟨w2.heap.size, 2, none⟩ = some (.int .i32 p.f2) := (Lib.cell_of_heap hbx3 2).trans rfl); (have HT3 := Lib.hid hT3); (have HS3 := Lib.hid hS3)
          have HB3 := Lib.hid (show Below w0.heap.size w0 w3 from HBA.out.trans (hS3.below (Nat.le_trans hb0 HT2.out.2.1) (fun i hi => Nat.le_trans hb0 (HT2.out.2.2.1 i hi).1) HBA.out.size))
          clear hIH hT3 hS3 hbx3 c1 c2'
          by_cases hz : p.f2 = 0
          · have hzb : (p.f2 != 0) = false := by rw [hz]; rfl
            (have HZ := Lib.hid hz); (clear hz); (go_wp2); (go_end0); (exact ⟨rfl, v3, fl3, by rw [HD.out, if_pos HZ.out, List.append_nil]; exact HT3.out, HSS.out.trans HS3.out⟩)
          · have hzb : (p.f2 != 0) = true := bne_iff_ne.2 hz
            (have HZ := Lib.hid hz); (have hIH2 := IH.out p.f2 w3 v3 fl3 (X ++ dec l f p.f1) (by have := HP.out; have := HR.out; omega) HT3.out HB3.out (by have := HS3.out.size; have := HSS.out.size; omega)); (clear hz); (go_wp2_with fail); (refine hIH2.mono ?_); (rintro e w4 ⟨rfl, hP4⟩); (have HP4 := Lib.hid (hP4.to (HSS.out.trans HS3.out))); (clear hIH2 hP4); (go_wp2); (go_end0); (exact ⟨rfl, by rw [HD.out, if_neg HZ.out, ← List.append_assoc]; exact HP4.out⟩)
end Go.Proofs.YtmjnipifpeehgaaDoor.Q
