/- query.Parse: what it answers at every text. -/
import Derived.Test.YtbcbmmlpgdndpaaDoorSB10
import Derived.Test.YtbcbmmlpgdndpaaDoorSB11
set_option linter.unusedSimpArgs false
set_option linter.unusedVariables false
namespace Go.Proofs.YtbcbmmlpgdndpaaDoor.Q
open Go.RowKit Go.Proofs.YtbcbmmlpgdndpaaDoorW.PrintWords Go.Proofs.YtbcbmmlpgdndpaaDoorW.PrintLast Go.Proofs.YtbcbmmlpgdndpaaDoorW.PrintMore Go.Proofs.YtbcbmmlpgdndpaaDoor.P1 Go.Proofs.YtbcbmmlpgdndpaaDoor.R Go.Proofs.YtbcbmmlpgdndpaaDoor.Qu
attribute [local go_sem] Oper.semAt_some
/-- what stands between two rounds -/
def StQ (w : World) (ds : List Fld) (W : World) : Prop :=
  ∃ v, W.heap[w.heap.size]? = some (.cells #[v] 22 (0, 0)) ∧ Kd.R kF 32 W (w.heap.size + 4) (fun _ => True) v ds ∧ Below w.heap.size w W ∧ w.heap.size + 4 ≤ W.heap.size
theorem StQ.grown {w A C : World} {ds : List Fld} {row : Option Nat} (h : StQ w ds A) (hg : A.grownBy C row)
    (hr : ∀ r, row = some r → r = w.heap.size + 1 ∨ (w.heap.size + 4 ≤ r ∧ ∃ o : Obj, A.heap[r]? = some o ∧ o.isCells = false)) : StQ w ds C := by
  obtain ⟨v, h1, h2, h7, h8⟩ := h
  have keep : ∀ (k : Nat) (c : Array Value) (e : TypeId) (f : Nat × Nat), k ≠ w.heap.size + 1 → A.heap[k]? = some (.cells c e f) → C.heap[k]? = some (.cells c e f) := fun k c e f hk ho => by
    refine (hg.block k (Array.getElem?_eq_some_iff.1 ho).1 (fun e' => ?_)).trans ho
    rcases hr k e'.symm with h | ⟨_, o, ho', hc⟩
    · exact hk h
    · rw [ho] at ho'; cases ho'; cases hc
  refine ⟨v, keep _ _ _ _ (by omega) h1, ?_, ?_, Nat.le_trans h8 hg.size⟩
  · refine Kd.R_grown2 h2 rfl hg (fun k e e' => ?_)
    rcases hr k e with h | ⟨_, o, ho', hc⟩
    · have := Kd.R_base h2 k e'.symm
      omega
    · obtain ⟨cells, hcl⟩ := Kd.R_typed h2 k e'.symm
      rw [hcl] at ho'; cases ho'; cases hc
  · exact h7.grown hg (by have := h7.size; omega) (fun k e' => by
      rcases hr k e' with e1 | ⟨hle, _⟩ <;> omega)
theorem R_putF {W : World} {b : Nat} {ok : Nat → Prop} {v : Value} {ds : List Fld} (h : Kd.R kF 32 W b ok v ds) {D : Nat} (o' : Obj) (hK : W.heap[D]? = some (Obj.deferred (some []))) : Kd.R kF 32 (W.putObj D o') b ok v ds :=
  Kd.R_grown2 h rfl (grownBy_putObj' W D o') (fun k e e' => by
    obtain ⟨cells, hcl⟩ := Kd.R_typed h k e'.symm
    cases e
    rw [hcl] at hK; cases hK)
theorem StQ.below {w A C : World} {ds : List Fld} (h : StQ w ds A) (hb : Below A.heap.size A C) : StQ w ds C :=
  h.grown (grown_of_below hb none) (fun r e => by cases e)
set_option maxRecDepth 100000 in
set_option maxHeartbeats 4000000 in
theorem qparse_in (s : List UInt8) (hs : s.length ≤ 65536) (w : World) (hT : UTabs w) :
    CallsIn Fence.wide 5 Tryd.prog 11 #[.string (B s)] w fun e w' => (((rdP (parts 38 s)).length ≤ 256 ∧ ∃ v, e = .returned (.tuple #[v, .int .i64 0]) ∧ Kd.R kF 32 w' w.heap.size (fun _ => True) v (rdP (parts 38 s))) ∨ (256 < (rdP (parts 38 s)).length ∧ e = .returned (.tuple #[.slice none 0 0, .int .i64 3]))) ∧ Below w.heap.size w w' := by
  have hsz : (B s).size = s.length := B_size s
  have hlt0 : ¬ ((B s).size : Int) > 65536 := by rw [hsz]; omega
  refine callsIn_of_wp_marks Tryd.func11 rfl trivial ?_ rfl
  simp only [Tryd.ntmps11, List.size_toArray, List.length_cons, List.length_nil, Nat.reduceAdd, Nat.reduceSub, Array.replicate_succ, Array.replicate_zero, List.push_toArray, List.append_toArray, List.nil_append, List.cons_append]
  gi_wp2_with fail
  refine ⟨trivial, ?_⟩
  refine (callsIn_wide.2 (splitSeq_calls _ _ _)).mono ?_
  rintro e W0 ⟨rfl, hb0, hsz0, hB0, hB1, hB2⟩
  have e3 : (w.alloc (.cells #[.slice none 0 0] 22)).heap.size = w.heap.size + 1 := by simp
  rw [e3] at hb0 hsz0 hB0 hB1 hB2 ⊢
  have hR4 : W0.heap[w.heap.size]? = some (.cells #[.slice none 0 0] 22 (0, 0)) := by
    rw [hb0.block _ (by omega)]; exact World.alloc_heap_new w _
  have hBW : Below w.heap.size w W0 := ((Below.refl _ w).alloc (Nat.le_refl _) _).trans (hb0.mono (by omega))
  have hst : StQ w [] W0 := ⟨.slice none 0 0, hR4, Kd.R_nil _ _ _ _ _, hBW, by omega⟩
  have hsz1 : W0.heap.size = w.heap.size + 4 := by omega
  have HT := Lib.hid (fun W (h : Below w.heap.size w W) => hT.below h)
  have hpc := parts_count 38 s
  clear e3 hb0 hR4 hBW hsz0 hT
  gi_wp2_with fail
  have hroom : w.heap.size + 1 < W0.heap.size := by omega
  refine range_stop (n := 5) (w := W0) (F := Fence.wide) (T := 9) (ps := #[14]) (xs := parts 38 s) (encs := fun x : List UInt8 => #[Value.string (B x)]) (Kp := KpS (w.heap.size + 1)) rfl (by omega) (gf := 69) (lb := #[.pointer (some ⟨w.heap.size + 1 + 1, 0, none⟩), .pointer (some ⟨w.heap.size + 1, 0, none⟩), .pointer (some ⟨w.heap.size + 1 + 2, 0, none⟩)]) rfl trivial (enters_of Tryd.func69 (by kernel_rfl) rfl) (w.heap.size + 1) hroom ?seq ?kt ?kb (fun _ => rfl)
    (fun pre W => StQ w (rdP pre) W) (fun _ => False) ?stable ?outs ?start ?a1 ?assign ?body ?stop ?done
  case assign =>
    intro l x W K hK
    gi_wp2
    exact hK
  case seq =>
    intro l J Jx W hl hb hJ hY h0
    exact split_in (w.heap.size + 1) 38 s (by omega) l J Jx hJ hY W ((hb.block _ (by omega)).trans hB0) ((hb.block _ (by omega)).trans hB1) ((hb.block _ (by omega)).trans hB2) h0
  case kt => intro A C D h k; exact ⟨k.1.trans h.1, k.2.1.trans h.2.1, k.2.2.trans h.2.2⟩
  case kb =>
    intro W l o o' hl ho hc
    exact ⟨World.putObj_heap_other (by omega), World.putObj_heap_other (by omega), World.putObj_heap_other (by omega)⟩
  case start => exact hst
  case stable =>
    rintro pre A C row h2 hg hr
    exact h2.grown hg (fun r e => by
      rcases hr r e with ⟨e1, _⟩ | ⟨h3, h4⟩
      · exact .inl e1
      · exact .inr ⟨by omega, h4⟩)
  case outs => rintro A l o o' h; exact h.elim
  case stop => rintro D W hD h; exact h.elim
  case done =>
    rintro D W hD ⟨v, q1, q2, q7, q8⟩ hK
    obtain ⟨A, c, rfl⟩ := Kd.R_slice q2
    have c60 : W.cell? ⟨w.heap.size, 0, none⟩ = some (.slice A (rdP (parts 38 s)).length c) := by rw [Lib.cell_of_heap q1]; rfl
    have hlow := Kd.R_lower q2 (base' := w.heap.size) (by omega)
    have HQ := Lib.hid (And.intro hlow (And.intro q7 (And.intro hD (And.intro hK hsz1))))
    clear q1 q2 q7 q8 hlow
    by_cases hm : (rdP (parts 38 s)).length ≤ 256
    · have HM := Lib.hid hm
      have hgt : decide (256 < ((rdP (parts 38 s)).length : Int)) = false := decide_eq_false (by omega)
      have hz : ¬ 256 < (rdP (parts 38 s)).length := by omega
      clear hm
      gi_wp2
      refine ⟨by simp, .inl ⟨_, _, rfl, run_takeDeferred HQ.out.2.2.2.1, ?_⟩⟩
      refine ⟨_, results_tmp2 rfl _ _ _, ?_, HQ.out.2.1.trans (belowK_b (w := w) (Nat.le_refl _) W D _ _ (by have := HQ.out.2.2; omega) HQ.out.2.2.2.1 rfl rfl)⟩
      exact .inl ⟨HM.out, _, rfl, R_putF HQ.out.1 _ HQ.out.2.2.2.1⟩
    · have HM := Lib.hid hm
      have hgt : decide (256 < ((rdP (parts 38 s)).length : Int)) = true := decide_eq_true (by omega)
      have hz : 256 < (rdP (parts 38 s)).length := by omega
      clear hm
      gi_wp2
      refine ⟨by simp, .inl ⟨_, _, rfl, run_takeDeferred HQ.out.2.2.2.1, ?_⟩⟩
      refine ⟨_, results_tmp2 rfl _ _ _, ?_, HQ.out.2.1.trans (belowK_b (w := w) (Nat.le_refl _) W D _ _ (by have := HQ.out.2.2; omega) HQ.out.2.2.2.1 rfl rfl)⟩
      exact .inr ⟨by have := HM.out; omega, rfl⟩
  case body =>
    rintro l pre x W hs1 hpre
    have hx1 : x.length ≤ 65536 := Nat.le_trans (parts_lenQ 38 s x (hpre.subset (by simp))) hs
    have hpl : pre.length ≤ 65537 := by have := hpre.length_le; simp at this; omega
    have HLR := Lib.hid (rdP_len pre)
    by_cases hx : x = []
    · have HS1 := Lib.hid (show StQ w (rdP (pre ++ [x])) W by rw [hx, rdP_skip]; exact hs1)
      have hxe : B x = ⟨#[]⟩ := by rw [hx]; rfl
      clear hs1 hx
      generalize pre ++ [x] = pr at *
      generalize B x = bx at *
      subst hxe
      gi_wp2
      exact ⟨KeepsFrom.refl _ _, ⟨rfl, rfl, rfl⟩, HS1.out⟩
    · obtain ⟨fnd, hcf⟩ := cut_f 61 x (by omega)
      have hal := atB_len 61 x
      have HPM := Lib.hid (show rdP (pre ++ [x]) = rdP pre ++ [⟨B (rdT (atB 61 x).1), B (rdT (atB 61 x).2)⟩] from rdP_more pre x hx)
      have hne : ((B x).toList == ([] : List UInt8)) = false := by rw [B_toList]; simpa using hx
      have hne2 : B x ≠ ⟨#[]⟩ := by intro h; exact hx (B_inj h)
      generalize (atB 61 x).1 = xa at *
      generalize (atB 61 x).2 = xb at *
      generalize pre ++ [x] = pr at *
      have HXL := Lib.hid (show xa.length ≤ 1000000 ∧ xb.length ≤ 1000000 by omega)
      have hTW : UTabs W := HT.out W (by obtain ⟨_, _, _, h, _⟩ := hs1; exact h)
      have hcut := strings_Cut.calls (B x) (B [61]) _ _ _ W hTW hcf
      clear hcf hal hTW
      generalize B x = bx at *
      gi_wp2_with fail
      refine ⟨trivial, ?_⟩
      refine (((callsIn_wide (n := 2)).2 hcut).inRound l).mono ?_
      rintro e W1 ⟨rfl, hb1⟩
      clear hcut
      obtain ⟨v, q1, q2, q7, q8⟩ := hs1.below hb1
      have hWs : w.heap.size + 4 ≤ W.heap.size := by obtain ⟨_, _, _, _, h⟩ := hs1; exact h
      obtain ⟨Ao, co, rfl⟩ := Kd.R_slice q2
      have HW0 := Lib.hid hsz1
      have hkf : KeepsFrom W0.heap.size W W1 := KeepsFrom.of_grownBy (grown_of_below hb1 none) (fun j e => by cases e)
      have hkp : KpS (w.heap.size + 1) W W1 := ⟨hb1.block _ (by omega), hb1.block _ (by omega), hb1.block _ (by omega)⟩
      have HLEN := Lib.hid (show ((rdP pre).length + 1) * 32 ≤ 140737488355328 by have := HLR.out; omega)
      generalize rdP pre = ds at *
      have hfin : ∀ W' w3 v3, Below W1.heap.size W1 W' → Kd.R kF 32 w3 (w.heap.size + 4) (fun _ => True) v3 (ds ++ [⟨B (rdT xa), B (rdT xb)⟩]) → Below (w.heap.size + 4) W1 w3 → W'.grownBy w3 (Value.slice Ao ds.length co).ownBlock →
          Hid (∃ A3 c3, v3 = .slice A3 (ds.length + 1) c3 ∧ w3.heap[w.heap.size]? = some (.cells #[.slice Ao ds.length co] 22 (0, 0)) ∧ (KeepsFrom W0.heap.size W (w3.setCell ⟨w.heap.size, 0, none⟩ (.slice A3 (ds.length + 1) c3)) ∧ KpS (w.heap.size + 1) W (w3.setCell ⟨w.heap.size, 0, none⟩ (.slice A3 (ds.length + 1) c3)) ∧ StQ w (rdP pr) (w3.setCell ⟨w.heap.size, 0, none⟩ (.slice A3 (ds.length + 1) c3)))) := by
        intro W' w3 v3 hB ho hb hg
        obtain ⟨A3, c3, rfl⟩ := Kd.R_slice ho
        rw [List.length_append, List.length_singleton] at ho ⊢
        have ho' := Kd.R_below q2 hB
        have hc3 : w3.heap[w.heap.size]? = some (.cells #[.slice Ao ds.length co] 22 (0, 0)) := (hb.block _ (by omega)).trans q1
        refine Lib.hid ⟨A3, c3, rfl, hc3, ?_, ?_, ?_⟩
        · refine (hkf.trans (KeepsFrom.of_grownBy (grown_of_below hB none) (fun j e => by cases e))).trans (KeepsFrom.trans ⟨hg.size, fun k o hk ho2 hcells => ?_⟩ (KeepsFrom.of_grownBy (grownBy_setCell' w3 w.heap.size _) (fun j e => by cases e; have := HW0.out; omega)))
          refine (hg.block k (Array.getElem?_eq_some_iff.1 ho2).1 (fun e => ?_)).trans ho2
          obtain ⟨cells, hcl⟩ := Kd.R_typed ho' k e.symm
          rw [hcl] at ho2; cases ho2; cases hcells
        · refine ⟨?_, ?_, ?_⟩
          · rw [Below.heap_setCell _ _ _ _ (by show w.heap.size + 1 ≠ w.heap.size; omega)]; exact (hb.block _ (by omega)).trans hkp.1
          · rw [Below.heap_setCell _ _ _ _ (by show w.heap.size + 1 + 1 ≠ w.heap.size; omega)]; exact (hb.block _ (by omega)).trans hkp.2.1
          · rw [Below.heap_setCell _ _ _ _ (by show w.heap.size + 1 + 2 ≠ w.heap.size; omega)]; exact (hb.block _ (by omega)).trans hkp.2.2
        · refine ⟨.slice A3 (ds.length + 1) c3, ?_, ?_, ?_, ?_⟩
          · rw [setCell_blk (j := 0) _ hc3]; rfl
          · rw [HPM.out]
            exact Kd.R_grown2 ho rfl (grownBy_setCell' w3 w.heap.size _) (fun k e e' => by
              cases e
              have := Kd.R_base ho _ e'.symm
              omega)
          · exact (q7.trans (hb.mono (by omega))).setCell (p := ⟨w.heap.size, 0, none⟩) (Nat.le_refl _) _
          · have := hb.size; simp [World.setCell]; omega
      have hcellO : W1.cell? ⟨w.heap.size, 0, none⟩ = some (.slice Ao ds.length co) := by rw [Lib.cell_of_heap q1]; rfl
      have hout : w.heap.size < W1.heap.size := by omega
      have HWS := Lib.hid q8
      have HO := Aside0.mk q2
      have HB := Aside0.mk (Below.refl W1.heap.size W1).drew
      have hcellD : W1.drew.cell? ⟨w.heap.size, 0, none⟩ = some (.slice Ao ds.length co) := hcellO
      have HT1 := HT
      have HT := Lib.hid (fun W' (h : Below W1.heap.size W1 W') => HT1.out W' (q7.trans (h.mono (by omega))))
      clear q1 q2 q8 hkf hkp hb1 hs1 HT1
      gi_wp2_with fail
      -- REGION
      refine startR_ (n := 9) (S := fun w' => w'.cell? ⟨w.heap.size, 0, none⟩ = some (.slice Ao ds.length co)) (ds := [8]) #[false, false, false, false, false, false, false, false, false] (by kernel_rfl) (by rintro ⟨_, _, h⟩; exact h) (by kernel_rfl) rfl rfl (hcellD) (fun hHeld => ?_)
      refine pure_ (i := 1) (N := some 24) (v := ?_) (a' := ?_) #[false, true, false, false, false, false, false, false, false] rfl rfl (by kernel_rfl) (fun _ _ _ h => h) (Or.inl ⟨by rfl, ?_⟩) ?_ ?_
      rotate_left
      · intro w'
        go_simp
        with_reducible rfl
      rotate_left
      · simp only [Act.put, List.setIfInBounds_toArray, List.set_cons_zero, List.set_cons_succ, i64_w, i32_w]
        rfl
      refine pure_ (i := 3) (N := some 26) (v := ?_) (a' := ?_) #[false, true, false, true, false, false, false, false, false] rfl rfl (by kernel_rfl) (fun _ _ _ h => h) (Or.inl ⟨by rfl, ?_⟩) ?_ ?_
      rotate_left
      · intro w'
        go_simp
        with_reducible rfl
      rotate_left
      · simp only [Act.put, List.setIfInBounds_toArray, List.set_cons_zero, List.set_cons_succ, i64_w, i32_w]
        rfl
      refine take_ (i := 0) (N := some 23) (v := ?_) (a' := ?_) #[true, true, false, true, false, false, false, false, false] rfl rfl (by kernel_rfl) (fun _ _ _ h => h) (Or.inl ⟨by rfl, ?_⟩) hHeld ?_ ?_
      rotate_left
      · intro w' s0
        go_simp
        with_reducible rfl
      rotate_left
      · simp only [Act.put, List.setIfInBounds_toArray, List.set_cons_zero, List.set_cons_succ, i64_w, i32_w]
        rfl
      refine one_ (i := 2) (N := some 25) #[true, true, true, true, false, false, false, false, false] rfl rfl (by kernel_rfl) (by decide) (fun K hK => ?_)
      refine goes_ Tryd.func32 (by kernel_rfl) rfl #[.string (B xa)] (by rfl) rfl rfl (by simp only [List.map_toArray, List.map_cons, List.map_nil]; rfl) ?_
      with_reducible refine (read_any xa HXL.out.1 _ (HT.out _ HB.out)).mono ?_
      rintro e w3 ⟨rfl, hb⟩
      refine ⟨_, rfl, ?_⟩
      have n0_ := Aside0.mk (HB.out.trans (hb.mono HB.out.size))
      clear HB
      have HB := n0_
      clear hb
      refine hK.out _ _ (((HB.out.cell hout).trans hcellO)) (fun hHeld => ?_)
      clear hK K
      refine norm_ (a' := ?_) ?_ ?_
      rotate_left
      · show Act.put _ (some 25) _ = _
        simp only [Act.put, List.setIfInBounds_toArray, List.set_cons_zero, List.set_cons_succ, i64_w, i32_w]
        rfl
      refine one_ (i := 4) (N := some 27) #[true, true, true, true, true, false, false, false, false] rfl rfl (by kernel_rfl) (by decide) (fun K hK => ?_)
      refine goes_ Tryd.func32 (by kernel_rfl) rfl #[.string (B xb)] (by rfl) rfl rfl (by simp only [List.map_toArray, List.map_cons, List.map_nil]; rfl) ?_
      with_reducible refine (read_any xb HXL.out.2 _ (HT.out _ HB.out)).mono ?_
      rintro e w3 ⟨rfl, hb⟩
      refine ⟨_, rfl, ?_⟩
      have n0_ := Aside0.mk (HB.out.trans (hb.mono HB.out.size))
      clear HB
      have HB := n0_
      clear hb
      refine hK.out _ _ (((HB.out.cell hout).trans hcellO)) (fun hHeld => ?_)
      clear hK K
      refine norm_ (a' := ?_) ?_ ?_
      rotate_left
      · show Act.put _ (some 27) _ = _
        simp only [Act.put, List.setIfInBounds_toArray, List.set_cons_zero, List.set_cons_succ, i64_w, i32_w]
        rfl
      refine pure_ (i := 5) (N := some 28) (v := ?_) (a' := ?_) #[true, true, true, true, true, true, false, false, false] rfl rfl (by kernel_rfl) (fun _ _ _ h => h) (Or.inl ⟨by rfl, ?_⟩) ?_ ?_
      rotate_left
      · intro w'
        go_simp
        with_reducible rfl
      rotate_left
      · simp only [Act.put, List.setIfInBounds_toArray, List.set_cons_zero, List.set_cons_succ, i64_w, i32_w]
        rfl
      refine one_ (i := 6) (N := some 29) #[true, true, true, true, true, true, true, false, false] rfl rfl (by kernel_rfl) (by decide) (fun K hK => ?_)
      refine value_ (w1 := ?_) (v := ?_) (by rfl) rfl ?_ ?_
      rotate_left 2
      · go_simp
        constructor
        · rfl
        · rfl
      have hbA := (HB.out.alloc HB.out.size (.cells #[.string (B (rdT xa)), .string (B (rdT xb))] 32))
      refine hK.out _ _ (((hbA.cell hout).trans hcellO)) (fun hHeld => ?_)
      clear hK K
      refine norm_ (a' := ?_) ?_ ?_
      rotate_left
      · show Act.put _ (some 29) _ = _
        simp only [Act.put, List.setIfInBounds_toArray, List.set_cons_zero, List.set_cons_succ, i64_w, i32_w]
        rfl
      refine one_ (i := 7) (N := some 30) #[true, true, true, true, true, true, true, true, false] rfl rfl (by kernel_rfl) (by decide) (fun K hK => ?_)
      refine Kd.R_append_step kF (w0 := W1) (w.heap.size + 4) (by rfl) (.tmp 23) (.tmp 29) 22 32 (.agg #[.string ⟨#[]⟩, .string ⟨#[]⟩]) 32 rfl Tryd.underlying22 info32 rfl (by decide) (by omega) (.slice Ao ds.length co) ds ⟨B (rdT xa), B (rdT xb)⟩ [.string (B (rdT xa)), .string (B (rdT xb))] (fun _ => True) (fun _ => False) rfl rfl (k32_mkM _ _ _ _) (fun _ h => h.elim) (fun _ _ => trivial) (Kd.R_below HO.out HB.out) (HB.out.mono HWS.out) (Nat.le_trans HWS.out HB.out.size) HLEN.out ?_
      intro v3 w3 ho hb hg hat
      obtain ⟨A3, c3, e3, hc3, hu3⟩ := (hfin _ _ _ HB.out ho hb hg).out
      subst e3
      have hcO3 : w3.cell? ⟨w.heap.size, 0, none⟩ = some (.slice Ao ds.length co) := by rw [Lib.cell_of_heap hc3]; rfl
      have hfO3 : w3.frozen? ⟨w.heap.size, 0, none⟩ = false := Lib.frozen_of_heap hc3 0
      have HU3 := Lib.hid hu3
      clear ho hb hg hat hu3 hc3
      refine hK.out _ _ (hcO3) (fun hHeld => ?_)
      clear hK K
      refine norm_ (a' := ?_) ?_ ?_
      rotate_left
      · show Act.put _ (some 30) _ = _
        simp only [Act.put, List.setIfInBounds_toArray, List.set_cons_zero, List.set_cons_succ, i64_w, i32_w]
        rfl
      refine last_ (i := 8) (N := none) #[true, true, true, true, true, true, true, true, true] rfl rfl (by kernel_rfl) (by decide) (fun K hK => ?_)
      refine skip_ (w1 := ?_) (by rfl) rfl ?_ ?_
      rotate_left
      · go_simp
        rfl
      refine hK.out _ _ ?_
      clear hK K
      refine done_ (by kernel_rfl) ?_
      -- END REGION
      gi_wp2
      exact HU3.out
theorem qparse_long (s : ByteArray) (hs : ¬ s.size ≤ 65536) (w : World) :
    Calls Tryd.prog 11 #[.string s] w fun e w' => e = .returned (.tuple #[.slice none 0 0, .int .i64 4]) ∧ Below w.heap.size w w' := by
  have hgt : decide (65536 < (s.size : Int)) = true := decide_eq_true (by omega)
  have hz : 65536 < s.size := by omega
  go_enter Tryd.func11, Tryd.ntmps11
  go_wp2
  go_ret2
  exact ⟨rfl, Below.refl _ _⟩
/-- what is read of a text -/
def prsF (s : List UInt8) : List Fld := rdP (parts 38 s)
def query_Parse.f (a0 : ByteArray) : Option (List Fld × Int) :=
  if 65536 < a0.size then some ([], 4) else if 256 < (prsF a0.data.toList).length then some ([], 3) else some (prsF a0.data.toList, 0)
theorem query_Parse.calls (a0 : ByteArray) (r1 : List Fld) (r2 : Int) (w : World) (hT : UTabs w) (h : query_Parse.f a0 = some (r1, r2)) :
    Calls Tryd.prog 11 #[.string a0] w fun e w' => ∃ v0_ : Value, e = .returned (.tuple #[v0_, .int .i64 r2]) ∧ Kd.R kF 32 w' w.heap.size (fun _ => True) v0_ r1 ∧ Below w.heap.size w w' := by
  unfold query_Parse.f at h
  by_cases h1 : 65536 < a0.size
  · rw [if_pos h1] at h
    cases h
    refine (qparse_long a0 (by omega) w).mono ?_
    rintro e w' ⟨rfl, hb⟩
    exact ⟨_, rfl, Kd.R_nil _ _ _ _ _, hb⟩
  · rw [if_neg h1] at h
    have hc := callsIn_wide.1 (qparse_in a0.data.toList (by rw [Array.length_toList]; exact Nat.le_of_not_lt h1) w hT)
    refine hc.mono ?_
    rintro e w' ⟨hd, hb⟩
    rcases hd with ⟨h2, v, rfl, hR⟩ | ⟨h2, rfl⟩
    · rw [if_neg (by unfold prsF; omega)] at h
      cases h
      exact ⟨_, rfl, hR, hb⟩
    · rw [if_pos (show 256 < (prsF a0.data.toList).length from h2)] at h
      cases h
      exact ⟨_, rfl, Kd.R_nil _ _ _ _ _, hb⟩
end Go.Proofs.YtbcbmmlpgdndpaaDoor.Q
