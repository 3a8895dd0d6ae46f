/- utf.Decode: what it answers at every text, where the library's two tables stand. -/
import Derived.Test.YtbcbmmlpgdndpaaDoorSUtfP
import Derived.Test.YtbcbmmlpgdndpaaDoorSB6
import Derived.Test.YtbcbmmlpgdndpaaDoorSB2
import Derived.Laws.MakeOwn
namespace Go.Proofs.YtbcbmmlpgdndpaaDoor.Q
open Go.RowKit Go.Proofs.YtbcbmmlpgdndpaaDoorW.PrintWords Go.Proofs.YtbcbmmlpgdndpaaDoorW.PrintLast Go.Proofs.YtbcbmmlpgdndpaaDoorW.PrintMore Go.Proofs.YtbcbmmlpgdndpaaDoor.R
set_option linter.unusedVariables false
attribute [local go_sem] Oper.semAt_some
theorem broken_calls (l : List UInt8) (h : l ≠ []) (hs : l.length ≤ 140737488350000) (w : World) :
    Calls Tryd.prog 94 #[.string (B l)] w fun e w' => e = .returned (.int .i64 (brk l : Nat)) ∧ Below w.heap.size w w' := by
  cases l with
  | nil => exact absurd rfl h
  | cons c r => exact (utf_broken.calls 20 _ _ w (brk_f c r (by simp at hs; omega))).mono fun _ _ hh => ⟨hh.1, hh.2.below⟩
set_option maxHeartbeats 1000000 in
theorem runes_in (s : ByteArray) (w : World) :
    CallsIn Fence.wide 4 Tryd.prog 78 #[.string s] w fun e w' => e = .returned (.func (.func 93) #[] #[.pointer (some ⟨w.heap.size, 0, none⟩)]) ∧ w' = w.alloc (.cells #[.string s] 9) := by
  refine callsIn_of_wp Tryd.func78 rfl trivial ?_ rfl
  simp only [Tryd.ntmps78, List.size_toArray, List.length_cons, List.length_nil, Nat.reduceAdd, Nat.reduceSub, Array.replicate_succ, Array.replicate_zero, List.push_toArray, List.append_toArray, List.nil_append, List.cons_append]
  gi_wp2
  go_ret
  exact ⟨rfl, rfl⟩
/-- what a round keeps of the iterator: its variable; all that lay below n₀ -/
def KpU (n₀ B0 : Nat) (A C : World) : Prop := C.heap[B0]? = A.heap[B0]? ∧ Below n₀ A C
/-- how much of the text is still to come -/
def leftU (B0 : Nat) (w : World) : Nat := match w.cell? ⟨B0, 0, none⟩ with
  | some (.string s) => s.size
  | _ => 0
theorem leftU_eq {B0 : Nat} {w : World} {l : List UInt8} (h : Boxed w B0 9 (.string (B l))) : leftU B0 w = l.length := by
  unfold leftU; rw [h.cell]; rfl
theorem U8T.kept {n₀ : Nat} {A C : World} (hn : ∀ p v, A.cell? p = some v → p.block = 0 ∨ p.block = 1 → p.block < n₀) (h : U8T A) (hb : Below n₀ A C) : U8T C := by
  refine ⟨fun c hc => ?_, fun i hi => ⟨?_, ?_⟩⟩
  · rw [hb.cell (hn _ _ (h.1 c hc) (.inl rfl))]; exact h.1 c hc
  · rw [hb.cell (hn _ _ (h.2 i hi).1 (.inr rfl))]; exact (h.2 i hi).1
  · rw [hb.cell (hn _ _ (h.2 i hi).2 (.inr rfl))]; exact (h.2 i hi).2
theorem U8T.lt {w : World} (h : U8T w) : 0 < w.heap.size ∧ 1 < w.heap.size := by
  have lt : ∀ (p : Addr) (v : Value), w.cell? p = some v → p.block < w.heap.size := by
    intro p v hp
    rcases Nat.lt_or_ge p.block w.heap.size with h' | h'
    · exact h'
    · simp [World.cell?, Array.getElem?_eq_none h'] at hp
  exact ⟨lt _ _ (h.1 0 (by omega)), lt _ _ (h.2 0 (by omega)).1⟩
theorem U8T.from_ {n₀ : Nat} {A C : World} (h : U8T A) (h1 : 0 < n₀) (h2 : 1 < n₀) (hb : Below n₀ A C) : U8T C :=
  U8T.kept (fun p v _ hp => by rcases hp with hp | hp <;> omega) h hb
theorem stepU_eq (l : List UInt8) (h : ¬ ((Lib.decodeGo (B l)).1 = 65533 ∧ (Lib.decodeGo (B l)).2 = 1)) : stepU l = (((Lib.decodeGo (B l)).1 : Int), (Lib.decodeGo (B l)).2) := by unfold stepU; rw [if_neg h]
theorem stepU_bad (l : List UInt8) (h : (Lib.decodeGo (B l)).1 = 65533 ∧ (Lib.decodeGo (B l)).2 = 1) : stepU l = (65533, brk l) := by unfold stepU; rw [if_pos h]
set_option maxRecDepth 100000 in
set_option maxHeartbeats 2000000 in
theorem iter_in (n₀ B0 : Nat) (h1 : 0 < n₀) (h2 : 1 < n₀) (hB0 : n₀ ≤ B0) (s : List UInt8) (hs : s.length ≤ 140737488350000) (l : Nat) (J : List Int → World → Prop)
    (hJ : ∀ pre A C row, J pre A → A.grownBy C row → (∀ r, row = some r → r = B0 ∧ ∃ x, Boxed C B0 9 x) → J pre C)
    (hY : ∀ pre x W1, J pre W1 → pre ++ [x] <+: uDec s → YieldAt Fence.wide 3 Tryd.prog l #[.int .i32 x] W1 fun e W' => e = .returned (.bool true) ∧ J (pre ++ [x]) W' ∧ KpU n₀ B0 W1 W')
    (W : World) (hc : Boxed W B0 9 (.string (B s))) (hT : U8T W) (h0 : J [] W) :
    CallsIn Fence.wide 4 Tryd.prog 93 #[.func (.yield l) #[] #[], .pointer (some ⟨B0, 0, none⟩)] W fun e W' => (∃ v, e = .returned v) ∧ J (uDec s) W' := by
  refine callsIn_of_wp Tryd.func93 rfl trivial ?_ rfl
  simp only [Tryd.ntmps93, List.size_toArray, List.length_cons, List.length_nil, Nat.reduceAdd, Nat.reduceSub, Array.replicate_succ, Array.replicate_zero, List.push_toArray, List.append_toArray, List.nil_append, List.cons_append]
  gi_wp2
  gi_loopw [3] (fun _ wr => ∃ (pre : List Int) (t : List UInt8), uDec s = pre ++ uDec t ∧ t.length ≤ 140737488350000 ∧ Boxed wr B0 9 (.string (B t)) ∧ U8T wr ∧ J pre wr) (fun _ wr => leftU B0 wr)
  case atStart => exact ⟨[], s, rfl, hs, hc, hT, h0⟩
  case round =>
    obtain ⟨pre, t, hx, ht, hb, hTr, hJs⟩ := hrel
    have hcell := hb.cell
    have HX := Lib.hid hx
    clear hx
    cases t with
    | nil =>
      have he : (B []).toList = [] := B_toList []
      gi_wp2
      go_end0
      exact ⟨⟨_, rfl⟩, by rw [HX.out, uDec_nil, List.append_nil]; exact hJs⟩
    | cons c r =>
      have he : (B (c :: r)).toList = c :: r := B_toList _
      have HE := Lib.hid he
      have hne : ((B (c :: r)).toList == []) = false := by rw [he]; rfl
      have hne2 : (B (c :: r)).toList.isEmpty = false := by rw [he]; rfl
      clear he
      have hbd := stepU_bounds (c :: r) (by simp)
      have hu := uDec_step c r
      have hbk := brk_bounds c r
      have hsz : (B (c :: r)).size = (c :: r).length := B_size _
      gi_wp2_with fail
      refine ⟨trivial, ?_⟩
      refine (callsIn_wide.2 (Tryd.decodeRune _ _ hTr)).mono ?_
      rintro e w1 ⟨rfl, hb1⟩
      have hB1 : Boxed w1 B0 9 (.string (B (c :: r))) := hb.kept (grown_of_below hb1 none) (by simp)
      have hT1 : U8T w1 := hTr.below hb1
      have hJ1 : J pre w1 := hJ pre wr w1 none hJs (grown_of_below hb1 none) (fun r e => by cases e)
      have HL := Lib.hid (leftU_eq hb)
      clear hTr hb hJs hcell
      have hcell := hB1.cell
      by_cases hbad : (Lib.decodeGo (B (c :: r))).1 = 65533 ∧ (Lib.decodeGo (B (c :: r))).2 = 1
      · have hst := stepU_bad (c :: r) hbad
        rw [hst] at hu hbd
        simp only [] at hu hbd
        generalize (Lib.decodeGo (B (c :: r))).1 = d1 at *
        generalize (Lib.decodeGo (B (c :: r))).2 = d2 at *
        have t1 : ((d1 : Int) == 65533) = true := by simp; omega
        have t2 : ((d2 : Int) == 1) = true := by simp; omega
        have HD := Lib.hid hbad.1
        have HU := Lib.hid hu
        have HS := Lib.hid hsz
        clear hbad hu hst hsz
        gi_wp2_with fail
        refine ⟨trivial, ?_⟩
        refine (callsIn_wide.2 (broken_calls (c :: r) (by simp) ht _)).mono ?_
        rintro e w2 ⟨rfl, hb2⟩
        have hB2 : Boxed w2 B0 9 (.string (B (c :: r))) := hB1.kept (grown_of_below hb2 none) (by simp)
        have hT2 : U8T w2 := hT1.below hb2
        have hJ2 : J pre w2 := hJ pre w1 w2 none hJ1 (grown_of_below hb2 none) (fun r e => by cases e)
        clear hT1 hB1 hJ1 hcell
        have hcell := hB2.cell
        obtain ⟨fn, tmps, assign, body, hy, hR⟩ := hY pre (d1 : Int) w2 hJ2 ⟨uDec ((c :: r).drop (brk (c :: r))), by rw [HX.out, HU.out, HD.out]; simp⟩
        gi_wp2
        refine hR.mono ?_
        rintro e W3 ⟨rfl, hJ3, hk3⟩
        have hB3 : Boxed W3 B0 9 (.string (B (c :: r))) := hk3.1.trans hB2
        have hT3 : U8T W3 := hT2.from_ h1 h2 hk3.2
        clear hcell hB2 hT2 hy hR
        have hcell := hB3.cell
        have hfz := hB3.frozen
        have g1 : brk (c :: r) ≤ (B (c :: r)).size := by rw [HS.out]; exact hbd.2
        gi_wp2_with fail
        have hB4 : Boxed (W3.setCell ⟨B0, 0, none⟩ (.string ((B (c :: r)).extract (brk (c :: r)) (B (c :: r)).size))) B0 9 (.string (B ((c :: r).drop (brk (c :: r))))) := by
          have := hB3.set (.string ((B (c :: r)).extract (brk (c :: r)) (B (c :: r)).size))
          rw [B_extract_end] at this ⊢
          exact this
        refine ⟨⟨pre ++ [(d1 : Int)], (c :: r).drop (brk (c :: r)), by rw [HX.out, HU.out, HD.out]; simp, by simp at ht ⊢; omega, hB4, hT3.from_ h1 h2 ((Below.refl n₀ W3).setCell (p := ⟨B0, 0, none⟩) hB0 _), hJ _ W3 _ (some B0) hJ3 (grownBy_setCell' W3 B0 _) (fun r e => by cases e; exact ⟨rfl, _, hB4⟩)⟩, ?_⟩
        rw [leftU_eq hB4, HL.out, List.length_drop]; omega
      · have hst := stepU_eq (c :: r) hbad
        rw [hst] at hu hbd
        simp only [] at hu hbd
        generalize (Lib.decodeGo (B (c :: r))).1 = d1 at *
        generalize (Lib.decodeGo (B (c :: r))).2 = d2 at *
        have HU := Lib.hid hu
        have HS := Lib.hid hsz
        obtain ⟨fn, tmps, assign, body, hy, hR⟩ := hY pre (d1 : Int) w1 hJ1 ⟨uDec ((c :: r).drop d2), by rw [HX.out, HU.out]; simp⟩
        have hcases : (((d1 : Int) == 65533) = false) ∨ (((d1 : Int) == 65533) = true ∧ ((d2 : Int) == 1) = false) := by
          by_cases e : d1 = 65533
          · right
            refine ⟨by simp; omega, ?_⟩
            simp; omega
          · left; simp; omega
        clear hbad hu hst hsz
        have fin : ∀ W3, J (pre ++ [(d1 : Int)]) W3 → KpU n₀ B0 w1 W3 → Boxed W3 B0 9 (.string (B (c :: r))) ∧ U8T W3 := fun W3 hJ3 hk3 => ⟨hk3.1.trans hB1, hT1.from_ h1 h2 hk3.2⟩
        have HF := Lib.hid fin
        clear fin
        rcases hcases with t1 | ⟨t1, t2⟩
        all_goals
          gi_wp2
          refine hR.mono ?_
          rintro e W3 ⟨rfl, hJ3, hk3⟩
          obtain ⟨hB3, hT3⟩ := HF.out W3 hJ3 hk3
          clear hcell hB1 hT1 hJ1 hy hR
          have hcell := hB3.cell
          have hfz := hB3.frozen
          have g1 : d2 ≤ (B (c :: r)).size := by rw [HS.out]; exact hbd.2
          gi_wp2_with fail
          have hB4 : Boxed (W3.setCell ⟨B0, 0, none⟩ (.string ((B (c :: r)).extract d2 (B (c :: r)).size))) B0 9 (.string (B ((c :: r).drop d2))) := by
            have := hB3.set (.string ((B (c :: r)).extract d2 (B (c :: r)).size))
            rw [B_extract_end] at this ⊢
            exact this
          refine ⟨⟨pre ++ [(d1 : Int)], (c :: r).drop d2, by rw [HX.out, HU.out]; simp, by simp at ht ⊢; omega, hB4, hT3.from_ h1 h2 ((Below.refl n₀ W3).setCell (p := ⟨B0, 0, none⟩) hB0 _), hJ _ W3 _ (some B0) hJ3 (grownBy_setCell' W3 B0 _) (fun r e => by cases e; exact ⟨rfl, _, hB4⟩)⟩, ?_⟩
          rw [leftU_eq hB4, HL.out, List.length_drop]; omega
theorem info_i32 : (Tryd.prog.info? 21).map (fun i => (i.zero, i.size, i.bytes)) = some (some (.int .i32 0), 1, 4) := by kernel_rfl
def utf_Decode.f (a0 : ByteArray) : Option (List Int) := if a0.size ≤ 35184372088831 then some (uDec a0.data.toList) else none
set_option maxRecDepth 100000 in
set_option maxHeartbeats 2000000 in
theorem udec_in (s : List UInt8) (hs : s.length ≤ 35184372088831) (w : World) (hT : U8T w) :
    CallsIn Fence.wide 5 Tryd.prog 59 #[.string (B s)] w fun e w' => ∃ v : Value, e = .returned v ∧ w'.ownsRow w.heap.size 21 1 v (uDec s).length ((uDec s).map (Value.int .i32)) ∧ Below w.heap.size w w' := by
  obtain ⟨i0, hi, hz0, hz1, hz2⟩ := info_parts info_i32
  have HS := Lib.hid (B_size s)
  have hmk : ∀ u : World, (Instr.makeSlice 89 (.int .i64 0) (.int .i64 ((B s).size : Int))).run Tryd.prog u =
      .ok (.slice (some ⟨u.heap.size, 0, none⟩) 0 (B s).size) (u.alloc (.cells (madeCells #[.int .i32 0] (B s).size) 21)) := fun u => by
    have h := run_make (P := Tryd.prog) u 89 21 i0 (.int .i32 0) Tryd.underlying89 hi hz0 .i64 .i64 0 ((B s).size : Int) (by omega) (by omega) (by rw [hz2, HS.out]; omega) (by rw [HS.out]; omega)
    simpa [hz1, Value.cells] using h
  refine callsIn_of_wp_marks Tryd.func59 rfl trivial ?_ rfl
  simp only [Tryd.ntmps59, List.size_toArray, List.length_cons, List.length_nil, Nat.reduceAdd, Nat.reduceSub, Array.replicate_succ, Array.replicate_zero, List.push_toArray, List.append_toArray, List.nil_append, List.cons_append]
  gi_wp2_with fail
  refine ⟨trivial, ?_⟩
  refine (runes_in _ _).mono ?_
  rintro e w' ⟨rfl, rfl⟩
  gi_wp2_with fail
  have bM : Boxed ((((w.alloc (.cells (madeCells #[.int .i32 0] (B s).size) 21)).alloc (.cells #[.slice (some ⟨w.heap.size, 0, none⟩) 0 (B s).size] 89)).alloc (.cells #[.string (B s)] 9))) (w.heap.size + 1) 89 (.slice (some ⟨w.heap.size, 0, none⟩) 0 (B s).size) := by
    have := Boxed.new (w.alloc (.cells (madeCells #[.int .i32 0] (B s).size) 21)) 89 (.slice (some ⟨w.heap.size, 0, none⟩) 0 (B s).size)
    rw [World.size_alloc] at this
    exact this.alloc _
  have bS : Boxed ((((w.alloc (.cells (madeCells #[.int .i32 0] (B s).size) 21)).alloc (.cells #[.slice (some ⟨w.heap.size, 0, none⟩) 0 (B s).size] 89)).alloc (.cells #[.string (B s)] 9))) (w.heap.size + 2) 9 (.string (B s)) := by
    have := Boxed.new ((w.alloc (.cells (madeCells #[.int .i32 0] (B s).size) 21)).alloc (.cells #[.slice (some ⟨w.heap.size, 0, none⟩) 0 (B s).size] 89)) 9 (.string (B s))
    rw [World.size_alloc, World.size_alloc] at this
    exact this
  have oM : (((w.alloc (.cells (madeCells #[.int .i32 0] (B s).size) 21)).alloc (.cells #[.slice (some ⟨w.heap.size, 0, none⟩) 0 (B s).size] 89)).alloc (.cells #[.string (B s)] 9)).ownsRow w.heap.size 21 1 (.slice (some ⟨w.heap.size, 0, none⟩) 0 (B s).size) 0 [] :=
    ((World.ownsRow_made w (madeCells #[.int .i32 0] (B s).size) (B s).size (Nat.le_refl _) (by rw [HS.out]; unfold maxLen; omega) (by simp [madeCells])).alloc _).alloc _
  have hB0 : Below w.heap.size w (((w.alloc (.cells (madeCells #[.int .i32 0] (B s).size) 21)).alloc (.cells #[.slice (some ⟨w.heap.size, 0, none⟩) 0 (B s).size] 89)).alloc (.cells #[.string (B s)] 9)) :=
    (((Below.refl _ w).alloc (Nat.le_refl _) _).alloc (by simp) _).alloc (by simp; omega) _
  have hsz : (((w.alloc (.cells (madeCells #[.int .i32 0] (B s).size) 21)).alloc (.cells #[.slice (some ⟨w.heap.size, 0, none⟩) 0 (B s).size] 89)).alloc (.cells #[.string (B s)] 9)).heap.size = w.heap.size + 3 := by simp
  generalize (((w.alloc (.cells (madeCells #[.int .i32 0] (B s).size) 21)).alloc (.cells #[.slice (some ⟨w.heap.size, 0, none⟩) 0 (B s).size] 89)).alloc (.cells #[.string (B s)] 9)) = W0 at *
  have hT0 : U8T W0 := hT.below hB0
  have hlen := uDec_length s.length s (Nat.le_refl _)
  have hlt := hT.lt
  refine range_cell (n := 5) (w := W0) (F := Fence.wide) (T := 9) (ps := #[10]) (xs := uDec s) (encs := fun x : Int => #[Value.int .i32 x]) (Kp := KpU w.heap.size (w.heap.size + 2)) rfl (by omega) (gf := 93) (lb := #[.pointer (some ⟨w.heap.size + 2, 0, none⟩)]) rfl trivial (enters_of Tryd.func93 (by kernel_rfl) rfl) (w.heap.size + 2) (by omega) ?seq ?kt ?kb (fun _ => rfl)
    (fun pre W => (∃ v, Boxed W (w.heap.size + 1) 89 v ∧ W.ownsRow w.heap.size 21 1 v pre.length (pre.map (Value.int .i32))) ∧ (∃ u, Boxed W (w.heap.size + 2) 9 u) ∧ Below w.heap.size w W) ?stable ?start
    (fun x => { tmps := #[.string (B s), undef, .slice none 0 0, .pointer (some ⟨w.heap.size + 1, 0, none⟩), .int .i32 x, .string (B s), .int .i64 ((B s).size : Int), .slice (some ⟨w.heap.size, 0, none⟩) 0 (B s).size, .string (B s), .func (.func 93) #[] #[.pointer (some ⟨w.heap.size + 2, 0, none⟩)], .int .i32 x, undef, undef, undef, undef, undef], defers := [] }) ?assign ?body ?done
  case seq =>
    intro l J W hl hb hJ hY h0
    exact iter_in w.heap.size (w.heap.size + 2) hlt.1 hlt.2 (by omega) s (by omega) l J hJ hY W ((hb.block _ (by omega)).trans bS) (hT0.below hb) h0
  case kt => intro A C D h k; exact ⟨k.1.trans h.1, h.2.trans k.2⟩
  case kb =>
    intro W l o o' hl ho hc
    refine ⟨World.putObj_heap_other (by omega), (Below.refl _ W).grown (grownBy_putObj' W l o') (by have := (Array.getElem?_eq_some_iff.1 ho).1; omega) (fun k e => by cases e; omega)⟩
  case start => exact ⟨⟨_, bM, oM⟩, ⟨_, bS⟩, hB0⟩
  case stable =>
    rintro pre A C row ⟨⟨v, h1, h2⟩, ⟨u, h3⟩, h4⟩ hg hr
    have hne : ∀ (k : Nat) (o : Obj), A.heap[k]? = some o → o.isCells = true → k ≠ w.heap.size + 2 → some k ≠ row := fun k o ho hc hk e => by
      rcases hr k e.symm with ⟨e1, _⟩ | ⟨_, o', ho', hc'⟩
      · exact hk e1
      · rw [ho] at ho'; cases ho'; rw [hc] at hc'; cases hc'
    refine ⟨⟨v, h1.kept hg (hne _ _ h1 rfl (by omega)), ?_⟩, ?_, ?_⟩
    · refine h2.kept hg ?_
      rcases h2.2 with ⟨rfl, _⟩ | ⟨g, cap, cur, rfl, _, hgg, _⟩
      · exact .inl rfl
      · refine .inr (hne g _ hgg rfl ?_)
        intro e
        have := h3.not_row (by decide) h2
        apply this
        rw [e]; rfl
    · cases hrow : row with
      | none => exact ⟨u, h3.kept hg (by rw [hrow]; simp)⟩
      | some r =>
        rcases hr r hrow with ⟨_, x, hx⟩ | ⟨hle, o', ho', hc'⟩
        · exact ⟨x, hx⟩
        · refine ⟨u, h3.kept hg (fun e => ?_)⟩
          rw [hrow] at e
          cases e
          rw [show A.heap[w.heap.size + 2]? = _ from h3] at ho'
          cases ho'; cases hc'
    · exact h4.grown hg (by have := h4.size; omega) (fun k e => by
        rcases hr k e with ⟨e1, _⟩ | ⟨hle, _⟩
        · omega
        · omega)
  case assign =>
    intro l x W K hK
    gi_wp2
    exact hK
  case body =>
    rintro l pre x W ⟨⟨v, hv, hrow⟩, ⟨u, hu⟩, hB⟩ hpre
    have hc := hv.cell
    have hpl : pre.length < (uDec s).length := by have := hpre.length_le; simp at this; omega
    have hszW := hB.size
    have bu := hv.not_row (by decide) hrow
    have bs := hu.not_row (e := 21) (by decide) hrow
    gi_wp2_with (gi_at_builtin; refine wpListIn_append_own _ rfl _ _ 89 rfl w.heap.size 21 i0 (.int .i32 0) 1 4 Tryd.underlying89 hi hz0 hz1 hz2 rfl (by decide) _ _ _ rfl (hrow.alloc _) ⟨W.heap.size, 0, none⟩ 1 1 [.int .i32 x] rfl rfl (cell_one_new _ _ _) (by simp [Value.oneCell']) (by unfold maxLen; omega) (by omega) (by simp; omega) ?_; intro v' w1 hown' hgrow _; obtain ⟨g', cap', rfl⟩ := ownsRow_succ hown'; obtain ⟨hv1, hv2, hr2, hk2, hb2⟩ := hv.appended (by decide) hrow hB.size (by omega) hown' hgrow; have hc1 := hv1.cell; have hf1 := hv1.frozen)
    have hg2 : (W.alloc (.cells #[.int .i32 x] 21)).grownBy w1 v.ownBlock := hgrow
    have hu2 := ((hu.alloc (.cells #[.int .i32 x] 21)).kept hg2 bs).other (B' := w.heap.size + 1) (by omega) (.slice (some ⟨g', 0, none⟩) (pre.length + 1) cap')
    exact ⟨hk2.from _, ⟨hu2.trans hu.symm, hb2⟩, ⟨_, hv2, by simpa using hr2⟩, ⟨u, hu2⟩, hB.trans hb2⟩
  case done =>
    rintro D W hD ⟨⟨v, hv, hrow⟩, _, hB⟩ hK
    have hc := hv.cell
    gi_wp2
    refine ⟨by simp, .inl ⟨_, _, rfl, run_takeDeferred hK, ?_⟩⟩
    exact ⟨_, results_tmp rfl _ _ _, v, rfl, ownsRow_putObj hrow _ hK rfl, hB.trans (belowK_b (w := w) (Nat.le_refl _) W D _ _ (by omega) hK rfl rfl)⟩
theorem utf_Decode.calls (a0 : ByteArray) (r : List Int) (w : World) (hT : UTabs w) (h : utf_Decode.f a0 = some r) :
    Calls Tryd.prog 59 #[.string a0] w fun e w' => ∃ v0_ : Value, e = .returned (v0_) ∧ Kd.R (Kd.int .i32) 21 w' w.heap.size (fun _ => True) v0_ r ∧ Below w.heap.size w w' := by
  unfold utf_Decode.f at h
  split at h
  · rename_i hs
    obtain rfl := Option.some.inj h
    have hs' : a0.data.toList.length ≤ 35184372088831 := by rw [Array.length_toList]; exact hs
    refine (callsIn_wide.1 (udec_in a0.data.toList hs' w hT.u8)).mono ?_
    rintro e w' ⟨v, rfl, h1, h2⟩
    exact ⟨v, rfl, Kd.R_of_own h1 (fun _ _ => trivial), h2⟩
  · cases h
end Go.Proofs.YtbcbmmlpgdndpaaDoor.Q
