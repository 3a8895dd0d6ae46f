/- nfc.Ordered: runes between those of class nought, each stretch in order. -/
import Derived.Test.YtmjnipifpeehgaaDoorSB3
set_option linter.unusedSimpArgs false
set_option linter.unusedVariables false
namespace Go.Proofs.YtmjnipifpeehgaaDoor.Q.I
open Go.RowKit Go.Proofs.YtmjnipifpeehgaaDoorW.PrintWords Go.Proofs.YtmjnipifpeehgaaDoorW.PrintLast Go.Proofs.YtmjnipifpeehgaaDoorW.PrintMore Go.Sort Go.Proofs.YtmjnipifpeehgaaDoor.St Go.Proofs.YtmjnipifpeehgaaDoor.Q
theorem span_length (l : List S43) (m : List Int) (fr te n : Nat) (h : m.length = n) (h1 : fr ≤ te) (h2 : te ≤ n) : (m.take fr ++ stab (leq (cLt (clsN l))) ((m.drop fr).take (te - fr)) ++ m.drop te).length = n := by
  rw [List.length_append, List.length_append, stab_length, List.length_take, List.length_take, List.length_drop, List.length_drop]
  omega
theorem span_pre (l : List S43) (m : List Int) (fr te : Nat) (hne : ∀ j, fr ≤ j → j < te → ∀ x, m[j]? = some x → clsN l x ≠ 0) : ∀ y ∈ (m.drop fr).take (te - fr), clsN l y ≠ 0 := fun y hy => by
  obtain ⟨j, hj, rfl⟩ := List.mem_iff_getElem.1 hy
  rw [List.length_take, List.length_drop] at hj
  refine hne (fr + j) (by omega) (by omega) _ ?_
  rw [List.getElem_take, List.getElem_drop, List.getElem?_eq_getElem (by omega)]
theorem span_step (l : List S43) (m : List Int) (fr te : Nat) (x : Int) (hx : m[te]? = some x) (h1 : fr ≤ te) (hz : clsN l x = 0) (hne : ∀ j, fr ≤ j → j < te → ∀ x, m[j]? = some x → clsN l x ≠ 0) :
    m.take fr ++ segGo (clsN l) [] (m.drop fr) = (m.take fr ++ stab (leq (cLt (clsN l))) ((m.drop fr).take (te - fr)) ++ m.drop te).take (te + 1) ++ segGo (clsN l) [] ((m.take fr ++ stab (leq (cLt (clsN l))) ((m.drop fr).take (te - fr)) ++ m.drop te).drop (te + 1)) := by
  have hlt := (List.getElem?_eq_some_iff.1 hx).1
  have e1 : m.drop fr = (m.drop fr).take (te - fr) ++ x :: m.drop (te + 1) := by
    conv => lhs; rw [← List.take_append_drop (te - fr) (m.drop fr)]
    rw [List.drop_drop, show fr + (te - fr) = te from by omega, List.drop_eq_getElem_cons hlt, (List.getElem?_eq_some_iff.1 hx).2]
  have e2 : m.drop te = x :: m.drop (te + 1) := by rw [List.drop_eq_getElem_cons hlt, (List.getElem?_eq_some_iff.1 hx).2]
  have hsl : (m.take fr ++ stab (leq (cLt (clsN l))) ((m.drop fr).take (te - fr))).length = te := by
    rw [List.length_append, stab_length, List.length_take, List.length_take, List.length_drop]; omega
  conv => lhs; rw [e1]
  rw [segGo_span (clsN l) x hz _ _ _ (span_pre l m fr te hne), List.nil_append, e2]
  rw [← List.append_assoc]
  generalize m.take fr ++ stab (leq (cLt (clsN l))) ((m.drop fr).take (te - fr)) = Z at hsl ⊢
  rw [List.take_append, List.drop_append, hsl, List.take_of_length_le (l := Z) (by omega), List.drop_of_length_le (l := Z) (by omega), show te + 1 - te = 1 from by omega]
  simp
theorem span_last (l : List S43) (m : List Int) (fr n : Nat) (hn : m.length = n) (h1 : fr ≤ n) (hne : ∀ j, fr ≤ j → j < n → ∀ x, m[j]? = some x → clsN l x ≠ 0) :
    m.take fr ++ segGo (clsN l) [] (m.drop fr) = (m.take fr ++ stab (leq (cLt (clsN l))) ((m.drop fr).take (n - fr)) ++ m.drop n).take (n + 1) ++ segGo (clsN l) [] ((m.take fr ++ stab (leq (cLt (clsN l))) ((m.drop fr).take (n - fr)) ++ m.drop n).drop (n + 1)) := by
  have hs := span_length l m fr n n hn h1 (Nat.le_refl _)
  obtain ⟨Z, hZ⟩ : ∃ Z, Z = m.take fr ++ stab (leq (cLt (clsN l))) ((m.drop fr).take (n - fr)) ++ m.drop n := ⟨_, rfl⟩
  rw [← hZ] at hs ⊢
  rw [List.take_of_length_le (l := Z) (by rw [hs]; omega), List.drop_of_length_le (l := Z) (by rw [hs]; omega), hZ, List.drop_of_length_le (l := m) (Nat.le_of_eq hn)]
  have hp := span_pre l m fr n hne
  have e : (m.drop fr).take (n - fr) = m.drop fr := List.take_of_length_le (by rw [List.length_drop]; omega)
  rw [e] at hp ⊢
  rw [segGo_end (clsN l) _ _ hp, List.nil_append, List.append_nil]
  exact (List.append_nil _).symm
set_option maxHeartbeats 8000000 in
theorem ordered_any (s0 s2 s3 s4 : Value) (A A5 : Option Addr) (c c5 : Nat) (l : List S43) (m0 : List Int) (w : World) (hn : l.length ≤ 1073741824) (hm : m0.length ≤ 1073741824) (hc5 : m0.length ≤ c5) (hpos : ∀ x, 0 ≤ clsOf l x) (hC : Kd.C k43 w A l.length l) (hC5 : Kd.C (Kd.int .i32) w A5 m0.length m0) :
    Calls Tryd.prog 9 #[.agg #[s0, .slice A l.length c, s2, s3, s4], .slice A5 m0.length c5] w fun e w' => ∃ v, e = .returned v ∧ Kd.R (Kd.int .i32) 21 w' w.heap.size (fun _ => True) v (ordL l m0) ∧ Below w.heap.size w w' := by
  have hB1 : Below w.heap.size w (w.alloc (.cells #[s0, .slice A l.length c, s2, s3, s4] 28)) := (Below.refl _ w).alloc (Nat.le_refl _) _
  have hbx : (w.alloc (.cells #[s0, .slice A l.length c, s2, s3, s4] 28)).heap[w.heap.size]? = some (.cells #[s0, .slice A l.length c, s2, s3, s4] 28 (0, 0)) := heapNewI _ _
  have hsz : (w.alloc (.cells #[s0, .slice A l.length c, s2, s3, s4] 28)).heap.size = w.heap.size + 1 := by simp
  have hclo := cloneI_calls A5 c5 m0 _ (Kd.C_below hC5 hB1) hc5 (by omega)
  have HB1 := Lib.hid hB1
  have HBX := Lib.hid (And.intro hbx hsz)
  have HC := Lib.hid hC
  have HP := Lib.hid hpos
  have HN := Lib.hid hn
  have HML := Lib.hid hm
  clear hB1 hbx hsz hC hC5 hpos hn
  generalize hml : m0.length = n at *
  go_enter Tryd.func9, Tryd.ntmps9
  go_wp2_with fail
  refine hclo.mono ?_
  rintro e w1 ⟨v, rfl, hR1, hb1⟩
  have HB2 := Lib.hid (HB1.out.trans (hb1.mono HB1.out.size))
  have HT := Lib.hid (show w1.heap[w.heap.size]? = some (.cells #[s0, .slice A l.length c, s2, s3, s4] 28 (0, 0)) from (hb1.block _ (by rw [HBX.out.2]; omega)).trans HBX.out.1)
  rw [HBX.out.2] at hR1
  clear hclo hb1 HB1 HBX
  rcases R_rowI hR1 with ⟨rfl, rfl⟩ | ⟨g, cap, rfl, hg, hrow⟩
  · obtain rfl : n = 0 := hml.symm
    (clear hR1 HT); (go_wp2)
    go_loopg [6] 1 (fun gg s6 wr => s6 = .int .i64 0 ∧ Hid (Below w.heap.size w wr))
    case atStart => exact ⟨rfl, HB2⟩
    case round =>
      (obtain ⟨rfl, HB⟩ := hrel); (go_wp2); (go_ret); (exact ⟨_, rfl, Kd.R_nil _ _ _ _ _, HB.out⟩)
  · rw [hml]
    (have HR0 := Lib.hid hrow); (have HG := Lib.hid hg); (have HS1 := Lib.hid (show w.heap.size + 1 ≤ w1.heap.size from Nat.le_trans hg (Nat.le_of_lt (by obtain ⟨cur, h, _⟩ := hrow; exact (Array.getElem?_eq_some_iff.1 h).1)))); (have HM := Lib.hid hml); (clear hrow hR1 hg hml); (go_wp2)
    go_loopg [6] (n + 1) (fun gg s6 wr => ∃ (fr : Nat) (m : List Int), s6 = .int .i64 fr ∧ Hid ((fr ≤ n + 1 ∧ n + 1 - fr ≤ gg) ∧ m.length = n ∧ ordL l m0 = m.take fr ++ segGo (clsN l) [] (m.drop fr)) ∧ Hid (RowI g cap wr m) ∧ Hid (Below (w.heap.size + 1) w1 wr))
    case atStart => exact ⟨0, m0, rfl, Lib.hid ⟨⟨by omega, by omega⟩, HM.out, rfl⟩, HR0, Lib.hid (Below.refl _ _)⟩
    case round =>
      (clear HR0); (obtain ⟨fr, m, rfl, HI, HR, HB⟩ := hrel)
      by_cases hlt : fr < n
      · have hltz : (fr : Int) < (n : Int) := by omega
        (have hltb : (⟨w.heap.size, 0, none⟩ : Addr).block < w.heap.size + 1 := Nat.lt_succ_self _); (have gw0 : w1.cell? ⟨w.heap.size, 0, none⟩ = some (s0) := (Lib.cell_of_heap HT.out 0).trans rfl); (have gw1 : w1.cell? ⟨w.heap.size, 1, none⟩ = some (.slice A l.length c) := (Lib.cell_of_heap HT.out 1).trans rfl); (have gw2 : w1.cell? ⟨w.heap.size, 2, none⟩ = some (s2) := (Lib.cell_of_heap HT.out 2).trans rfl); (have gw3 : w1.cell? ⟨w.heap.size, 3, none⟩ = some (s3) := (Lib.cell_of_heap HT.out 3).trans rfl); (have gw4 : w1.cell? ⟨w.heap.size, 4, none⟩ = some (s4) := (Lib.cell_of_heap HT.out 4).trans rfl)
        have hcls : ∀ x W1, Below (w.heap.size + 1) w1 W1 → Calls Tryd.prog 11 #[.agg #[s0, .slice A l.length c, s2, s3, s4], .int .i32 x] W1 fun e w' => e = .returned (.int .u8 (clsOf l x)) ∧ Below W1.heap.size W1 w' := fun x W1 h1 => class_any s0 s2 s3 s4 A c l x W1 HN.out (Kd.C_below HC.out (HB2.out.trans (h1.mono (Nat.le_succ _))))
        go_wp2
        go_loopg [7] (n - fr) (fun gg s7 wq => ∃ te : Nat, s7 = .int .i64 te ∧ Hid ((fr ≤ te ∧ te ≤ n ∧ n - te ≤ gg) ∧ ∀ j, fr ≤ j → j < te → ∀ x, m[j]? = some x → clsN l x ≠ 0) ∧ Hid (RowI g cap wq m) ∧ Hid (Below (w.heap.size + 1) w1 wq))
        case atStart => exact ⟨fr, rfl, Lib.hid ⟨⟨Nat.le_refl _, by omega, Nat.le_refl _⟩, fun j h1 h2 => by omega⟩, HR, HB⟩
        case round =>
          (clear HR HB); (obtain ⟨te, rfl, HJ, HRQ, HBQ⟩ := hrel)
          by_cases hto : te < n
          · have htoz : (te : Int) < (n : Int) := by omega
            (obtain ⟨x, hx⟩ : ∃ x, m[te]? = some x := ⟨_, List.getElem?_eq_getElem (by rw [HI.out.2.1]; exact hto)⟩); (have HBW := Aside0.mk (show Below (w.heap.size + 1) w1 wr.drew from HBQ.out.drew)); (have HRW := Aside0.mk (show RowI g cap wr.drew m from HRQ.out)); (have hcx := HRW.out.cell hx); (clear HRQ HBQ); (go_wp2_with fail)
            refine start_ (n := 13) (S := fun w' => w'.cell? ⟨w.heap.size, 0, none⟩ = some (s0) ∧ w'.cell? ⟨w.heap.size, 1, none⟩ = some (.slice A l.length c) ∧ w'.cell? ⟨w.heap.size, 2, none⟩ = some (s2) ∧ w'.cell? ⟨w.heap.size, 3, none⟩ = some (s3) ∧ w'.cell? ⟨w.heap.size, 4, none⟩ = some (s4) ∧ w'.cell? ⟨g, te, none⟩ = some (.int .i32 x)) (ds := []) #[false, false, false, false, false, false, false, false, false, false, false, false, false] (by kernel_rfl) rfl rfl ⟨((HBW.out.cell hltb).trans gw0), ((HBW.out.cell hltb).trans gw1), ((HBW.out.cell hltb).trans gw2), ((HBW.out.cell hltb).trans gw3), ((HBW.out.cell hltb).trans gw4), hcx⟩ (fun hHeld => ?_)
            refine pure_ (i := 0) (N := some 15) (v := ?_) (a' := ?_) #[true, false, false, false, false, false, false, false, false, false, false, false, false] rfl rfl (by kernel_rfl) (fun _ _ _ h => h) (Or.inl ⟨by rfl, ?_⟩) ?_ ?_
            (rotate_left); (· (intro w'); (go_simp); (with_reducible rfl)); (rotate_left); (· (simp only [Act.put, List.setIfInBounds_toArray, List.set_cons_zero, List.set_cons_succ, i64_w, i32_w]); (rfl))
            refine pure_ (i := 1) (N := some 16) (v := ?_) (a' := ?_) #[true, true, false, false, false, false, false, false, false, false, false, false, false] rfl rfl (by kernel_rfl) (fun _ _ _ h => h) (Or.inl ⟨by rfl, ?_⟩) ?_ ?_
            (rotate_left); (· (intro w'); (go_simp); (with_reducible rfl)); (rotate_left); (· (simp only [Act.put, List.setIfInBounds_toArray, List.set_cons_zero, List.set_cons_succ, i64_w, i32_w]); (rfl))
            refine pure_ (i := 2) (N := some 17) (v := ?_) (a' := ?_) #[true, true, true, false, false, false, false, false, false, false, false, false, false] rfl rfl (by kernel_rfl) (fun _ _ _ h => h) (Or.inl ⟨by rfl, ?_⟩) ?_ ?_
            (rotate_left); (· (intro w'); (go_simp); (with_reducible rfl)); (rotate_left); (· (simp only [Act.put, List.setIfInBounds_toArray, List.set_cons_zero, List.set_cons_succ, i64_w, i32_w]); (rfl))
            refine pure_ (i := 3) (N := some 18) (v := ?_) (a' := ?_) #[true, true, true, true, false, false, false, false, false, false, false, false, false] rfl rfl (by kernel_rfl) (fun _ _ _ h => h) (Or.inl ⟨by rfl, ?_⟩) ?_ ?_
            (rotate_left); (· (intro w'); (go_simp); (with_reducible rfl)); (rotate_left); (· (simp only [Act.put, List.setIfInBounds_toArray, List.set_cons_zero, List.set_cons_succ, i64_w, i32_w]); (rfl))
            refine pure_ (i := 4) (N := some 19) (v := ?_) (a' := ?_) #[true, true, true, true, true, false, false, false, false, false, false, false, false] rfl rfl (by kernel_rfl) (fun _ _ _ h => h) (Or.inl ⟨by rfl, ?_⟩) ?_ ?_
            (rotate_left); (· (intro w'); (go_simp); (with_reducible rfl)); (rotate_left); (· (simp only [Act.put, List.setIfInBounds_toArray, List.set_cons_zero, List.set_cons_succ, i64_w, i32_w]); (rfl))
            refine pure_ (i := 6) (N := some 21) (v := ?_) (a' := ?_) #[true, true, true, true, true, false, true, false, false, false, false, false, false] rfl rfl (by kernel_rfl) (fun _ _ _ h => h) (Or.inl ⟨by rfl, ?_⟩) ?_ ?_
            (rotate_left); (· (intro w'); (go_simp); (with_reducible rfl)); (rotate_left); (· (simp only [Act.put, List.setIfInBounds_toArray, List.set_cons_zero, List.set_cons_succ, i64_w, i32_w]); (rfl))
            refine pure_ (i := 7) (N := some 22) (v := ?_) (a' := ?_) #[true, true, true, true, true, false, true, true, false, false, false, false, false] rfl rfl (by kernel_rfl) (fun _ _ _ h => h) (Or.inl ⟨by rfl, ?_⟩) ?_ ?_
            (rotate_left); (· (intro w'); (go_simp); (with_reducible rfl)); (rotate_left); (· (simp only [Act.put, List.setIfInBounds_toArray, List.set_cons_zero, List.set_cons_succ, i64_w, i32_w]); (rfl))
            refine pure_ (i := 8) (N := some 23) (v := ?_) (a' := ?_) #[true, true, true, true, true, false, true, true, true, false, false, false, false] rfl rfl (by kernel_rfl) (fun _ _ _ h => h) (Or.inl ⟨by rfl, ?_⟩) ?_ ?_
            (rotate_left); (· (intro w'); (go_simp); (with_reducible rfl)); (rotate_left); (· (simp only [Act.put, List.setIfInBounds_toArray, List.set_cons_zero, List.set_cons_succ, i64_w, i32_w]); (rfl))
            refine take_ (i := 5) (N := some 20) (v := ?_) (a' := ?_) #[true, true, true, true, true, true, true, true, true, false, false, false, false] rfl rfl (by kernel_rfl) (fun _ _ _ h => h) (Or.inl ⟨by rfl, ?_⟩) hHeld ?_ ?_
            (rotate_left); (· (rintro w' ⟨s0, s1, s2, s3, s4, s5⟩); (go_simp); (with_reducible rfl)); (rotate_left); (· (simp only [Act.put, List.setIfInBounds_toArray, List.set_cons_zero, List.set_cons_succ, i64_w, i32_w]); (rfl))
            refine take_ (i := 9) (N := some 24) (v := ?_) (a' := ?_) #[true, true, true, true, true, true, true, true, true, true, false, false, false] rfl rfl (by kernel_rfl) (fun _ _ _ h => h) (Or.inl ⟨by rfl, ?_⟩) hHeld ?_ ?_
            (rotate_left); (· (rintro w' ⟨s0, s1, s2, s3, s4, s5⟩); (go_simp); (with_reducible rfl)); (rotate_left); (· (simp only [Act.put, List.setIfInBounds_toArray, List.set_cons_zero, List.set_cons_succ, i64_w, i32_w]); (rfl))
            refine one_ (i := 10) (N := some 25) #[true, true, true, true, true, true, true, true, true, true, true, false, false] rfl rfl (by kernel_rfl) (by decide) (fun K hK => ?_)
            (refine goes_ Tryd.func11 (by kernel_rfl) rfl #[.agg #[s0, .slice A l.length c, s2, s3, s4], .int .i32 x] (by rfl) rfl rfl (by simp only [List.map_toArray, List.map_cons, List.map_nil]; rfl) ?_); (with_reducible refine (hcls x _ HBW.out).mono ?_); (rintro e w3 ⟨rfl, hb⟩); (refine ⟨_, rfl, ?_⟩); (have HB3 := Aside0.mk (HBW.out.trans (hb.mono (Nat.le_trans HS1.out HBW.out.size)))); (have HR3 := Aside0.mk (HRW.out.below hb)); (clear hb)
            refine hK.out _ _ ⟨((HB3.out.cell hltb).trans gw0), ((HB3.out.cell hltb).trans gw1), ((HB3.out.cell hltb).trans gw2), ((HB3.out.cell hltb).trans gw3), ((HB3.out.cell hltb).trans gw4), (HR3.out.cell hx)⟩ (fun hHeld => ?_)
            (clear hK K); (refine norm_ (a' := ?_) ?_ ?_); (rotate_left); (· (show Act.put _ (some 25) _ = _); (simp only [Act.put, List.setIfInBounds_toArray, List.set_cons_zero, List.set_cons_succ, i64_w, i32_w]); (rfl))
            refine pure_ (i := 11) (N := some 26) (v := ?_) (a' := ?_) #[true, true, true, true, true, true, true, true, true, true, true, true, false] rfl rfl (by kernel_rfl) (fun _ _ _ h => h) (Or.inl ⟨by rfl, ?_⟩) ?_ ?_
            (rotate_left); (· (intro w'); (go_simp); (with_reducible rfl)); (rotate_left); (· (simp only [Act.put, List.setIfInBounds_toArray, List.set_cons_zero, List.set_cons_succ, i64_w, i32_w]); (rfl))
            refine pure_ (i := 12) (N := some 27) (v := ?_) (a' := ?_) #[true, true, true, true, true, true, true, true, true, true, true, true, true] rfl rfl (by kernel_rfl) (fun _ _ _ h => h) (Or.inl ⟨by rfl, ?_⟩) ?_ ?_
            (rotate_left); (· (intro w'); (go_simp); (with_reducible rfl)); (rotate_left); (· (simp only [Act.put, List.setIfInBounds_toArray, List.set_cons_zero, List.set_cons_succ, i64_w, i32_w]); (rfl)); (refine done_ (by kernel_rfl) ?_)
            cases hcz : (clsOf l x != 0) with
            | true =>
              have hne : clsN l x ≠ 0 := by
                (have h1 := HP.out x); (have h2 : clsOf l x ≠ 0 := bne_iff_ne.1 hcz); (unfold clsN); (omega)
              (have HNE := Lib.hid hne); (clear hne); (go_wp2); (go_roundg (n - (te + 1)))
              case measure => have := HJ.out.1; omega
              case rel =>
                (have hj := HJ.out.1); (have hml := HML.out)
                refine ⟨te + 1, by go_num, Lib.hid ⟨⟨by omega, by omega, by omega⟩, fun j h1 h2 y hy => ?_⟩, Lib.hid HR3.out, Lib.hid HB3.out⟩
                by_cases e : j = te
                · rw [e, hx] at hy
                  (obtain rfl := Option.some.inj hy); (exact HNE.out)
                · exact HJ.out.2 j h1 (by omega) y hy
            | false =>
              have hzc : clsN l x = 0 := by
                (have h2 : clsOf l x = 0 := by simpa using hcz); (unfold clsN); (omega)
              (have hj := HJ.out.1); (have hnc : n ≤ cap := by obtain ⟨cur, _, _, h3, _⟩ := HR3.out; rw [HI.out.2.1] at h3; exact h3)
              have hrun := fun W => span_run W g n cap fr te hj.1 hj.2.1 hnc (by omega)
              (have hst := sort_span g cap w.heap.size (w.heap.size + 1) A c l s0 s2 s3 s4 m fr te w _ (HB2.out.trans (HB3.out.mono (Nat.le_succ _))) (Nat.le_succ _) (Nat.le_trans HS1.out HB3.out.size) (Nat.lt_succ_self _) HG.out HN.out (by rw [HI.out.2.1]; exact HML.out) HP.out HC.out ((HB3.out.cell hltb).trans gw0) ((HB3.out.cell hltb).trans gw1) ((HB3.out.cell hltb).trans gw2) ((HB3.out.cell hltb).trans gw3) ((HB3.out.cell hltb).trans gw4) hj.1 (by rw [HI.out.2.1]; exact hj.2.1) HR3.out); (have HZ := Lib.hid hzc); (have HFT := Lib.hid hj); (clear hnc hzc hj); (go_wp2_with fail); (refine hst.mono ?_); (rintro e w5 ⟨rfl, hr5, hb5⟩); (have HR5 := Lib.hid hr5); (have HB5 := Lib.hid (HB3.out.trans hb5)); (clear hst hr5 hb5); (go_wp2); (go_roundg (n - te))
              case measure => have := HI.out.1; have := HFT.out; omega
              case rel =>
                (have hf := HFT.out); (have hml := HML.out); (refine ⟨te + 1, _, by go_num, Lib.hid ⟨⟨by omega, by omega⟩, ?_, ?_⟩, HR5, HB5⟩)
                · exact span_length l m fr te n HI.out.2.1 hf.1 hf.2.1
                · rw [HI.out.2.2]
                  exact span_step l m fr te x hx hf.1 HZ.out HJ.out.2
          · have htoz : ¬ (te : Int) < (n : Int) := by omega
            go_wp2_with fail
            refine start_ (n := 13) (S := fun w' => True) (ds := []) #[false, false, false, false, false, false, false, false, false, false, false, false, false] (by kernel_rfl) rfl rfl trivial (fun hHeld => ?_)
            refine pure_ (i := 0) (N := some 15) (v := ?_) (a' := ?_) #[true, false, false, false, false, false, false, false, false, false, false, false, false] rfl rfl (by kernel_rfl) (fun _ _ _ h => h) (Or.inl ⟨by rfl, ?_⟩) ?_ ?_
            (rotate_left); (· (intro w'); (go_simp); (with_reducible rfl)); (rotate_left); (· (simp only [Act.put, List.setIfInBounds_toArray, List.set_cons_zero, List.set_cons_succ, i64_w, i32_w]); (rfl))
            refine pure_ (i := 1) (N := some 16) (v := ?_) (a' := ?_) #[true, true, false, false, false, false, false, false, false, false, false, false, false] rfl rfl (by kernel_rfl) (fun _ _ _ h => h) (Or.inl ⟨by rfl, ?_⟩) ?_ ?_
            (rotate_left); (· (intro w'); (go_simp); (with_reducible rfl)); (rotate_left); (· (simp only [Act.put, List.setIfInBounds_toArray, List.set_cons_zero, List.set_cons_succ, i64_w, i32_w]); (rfl))
            refine pure_ (i := 2) (N := some 17) (v := ?_) (a' := ?_) #[true, true, true, false, false, false, false, false, false, false, false, false, false] rfl rfl (by kernel_rfl) (fun _ _ _ h => h) (Or.inl ⟨by rfl, ?_⟩) ?_ ?_
            (rotate_left); (· (intro w'); (go_simp); (with_reducible rfl)); (rotate_left); (· (simp only [Act.put, List.setIfInBounds_toArray, List.set_cons_zero, List.set_cons_succ, i64_w, i32_w]); (rfl))
            refine pure_ (i := 3) (N := some 18) (v := ?_) (a' := ?_) #[true, true, true, true, false, false, false, false, false, false, false, false, false] rfl rfl (by kernel_rfl) (fun _ _ _ h => h) (Or.inl ⟨by rfl, ?_⟩) ?_ ?_
            (rotate_left); (· (intro w'); (go_simp); (with_reducible rfl)); (rotate_left); (· (simp only [Act.put, List.setIfInBounds_toArray, List.set_cons_zero, List.set_cons_succ, i64_w, i32_w]); (rfl))
            refine pure_ (i := 4) (N := some 19) (v := ?_) (a' := ?_) #[true, true, true, true, true, false, false, false, false, false, false, false, false] rfl rfl (by kernel_rfl) (fun _ _ _ h => h) (Or.inl ⟨by rfl, ?_⟩) ?_ ?_
            (rotate_left); (· (intro w'); (go_simp); (with_reducible rfl)); (rotate_left); (· (simp only [Act.put, List.setIfInBounds_toArray, List.set_cons_zero, List.set_cons_succ, i64_w, i32_w]); (rfl))
            refine pure_ (i := 5) (N := some 20) (v := undef) (a' := ?_) #[true, true, true, true, true, true, false, false, false, false, false, false, false] rfl rfl (by kernel_rfl) (fun _ _ _ h => h) (Or.inr ⟨by rfl, rfl⟩) ?_ ?_
            (rotate_left); (· (simp only [Act.put, List.setIfInBounds_toArray, List.set_cons_zero, List.set_cons_succ, i64_w, i32_w]); (rfl))
            refine pure_ (i := 6) (N := some 21) (v := undef) (a' := ?_) #[true, true, true, true, true, true, true, false, false, false, false, false, false] rfl rfl (by kernel_rfl) (fun _ _ _ h => h) (Or.inr ⟨by rfl, rfl⟩) ?_ ?_
            (rotate_left); (· (simp only [Act.put, List.setIfInBounds_toArray, List.set_cons_zero, List.set_cons_succ, i64_w, i32_w]); (rfl))
            refine pure_ (i := 7) (N := some 22) (v := undef) (a' := ?_) #[true, true, true, true, true, true, true, true, false, false, false, false, false] rfl rfl (by kernel_rfl) (fun _ _ _ h => h) (Or.inr ⟨by rfl, rfl⟩) ?_ ?_
            (rotate_left); (· (simp only [Act.put, List.setIfInBounds_toArray, List.set_cons_zero, List.set_cons_succ, i64_w, i32_w]); (rfl))
            refine pure_ (i := 8) (N := some 23) (v := undef) (a' := ?_) #[true, true, true, true, true, true, true, true, true, false, false, false, false] rfl rfl (by kernel_rfl) (fun _ _ _ h => h) (Or.inr ⟨by rfl, rfl⟩) ?_ ?_
            (rotate_left); (· (simp only [Act.put, List.setIfInBounds_toArray, List.set_cons_zero, List.set_cons_succ, i64_w, i32_w]); (rfl))
            refine pure_ (i := 9) (N := some 24) (v := undef) (a' := ?_) #[true, true, true, true, true, true, true, true, true, true, false, false, false] rfl rfl (by kernel_rfl) (fun _ _ _ h => h) (Or.inr ⟨by rfl, rfl⟩) ?_ ?_
            (rotate_left); (· (simp only [Act.put, List.setIfInBounds_toArray, List.set_cons_zero, List.set_cons_succ, i64_w, i32_w]); (rfl))
            refine pure_ (i := 10) (N := some 25) (v := undef) (a' := ?_) #[true, true, true, true, true, true, true, true, true, true, true, false, false] rfl rfl (by kernel_rfl) (fun _ _ _ h => h) (Or.inr ⟨by rfl, rfl⟩) ?_ ?_
            (rotate_left); (· (simp only [Act.put, List.setIfInBounds_toArray, List.set_cons_zero, List.set_cons_succ, i64_w, i32_w]); (rfl))
            refine pure_ (i := 11) (N := some 26) (v := undef) (a' := ?_) #[true, true, true, true, true, true, true, true, true, true, true, true, false] rfl rfl (by kernel_rfl) (fun _ _ _ h => h) (Or.inr ⟨by rfl, rfl⟩) ?_ ?_
            (rotate_left); (· (simp only [Act.put, List.setIfInBounds_toArray, List.set_cons_zero, List.set_cons_succ, i64_w, i32_w]); (rfl))
            refine pure_ (i := 12) (N := some 27) (v := ?_) (a' := ?_) #[true, true, true, true, true, true, true, true, true, true, true, true, true] rfl rfl (by kernel_rfl) (fun _ _ _ h => h) (Or.inl ⟨by rfl, ?_⟩) ?_ ?_
            (rotate_left); (· (intro w'); (go_simp); (with_reducible rfl)); (rotate_left); (· (simp only [Act.put, List.setIfInBounds_toArray, List.set_cons_zero, List.set_cons_succ, i64_w, i32_w]); (rfl)); (refine done_ (by kernel_rfl) ?_); (obtain rfl : n = te := by have := HJ.out.1; omega); (have hfz : (fr : Int) ≤ (n : Int) := by omega); (have hnc : n ≤ cap := by obtain ⟨cur, _, _, h3, _⟩ := HRQ.out; rw [HI.out.2.1] at h3; exact h3); (have hncz : (n : Int) ≤ (cap : Int) := by omega); (have hj := HJ.out.1); (have HBE := Aside0.mk (show Below (w.heap.size + 1) w1 wr.drew from HBQ.out.drew)); (have HRE := Aside0.mk (show RowI g cap wr.drew m from HRQ.out)); (clear HBQ HRQ)
            have hrun := fun W => span_run W g n cap fr n hj.1 (Nat.le_refl _) hnc (by omega)
            (have hst := sort_span g cap w.heap.size (w.heap.size + 1) A c l s0 s2 s3 s4 m fr n w _ (HB2.out.trans (HBE.out.mono (Nat.le_succ _))) (Nat.le_succ _) (Nat.le_trans HS1.out HBE.out.size) (Nat.lt_succ_self _) HG.out HN.out (by rw [HI.out.2.1]; exact HML.out) HP.out HC.out ((HBE.out.cell hltb).trans gw0) ((HBE.out.cell hltb).trans gw1) ((HBE.out.cell hltb).trans gw2) ((HBE.out.cell hltb).trans gw3) ((HBE.out.cell hltb).trans gw4) hj.1 (by rw [HI.out.2.1]; exact Nat.le_refl _) HRE.out); (have HFT := Lib.hid hj); (clear hnc hj); (go_wp2_with fail); (refine hst.mono ?_); (rintro e w5 ⟨rfl, hr5, hb5⟩); (have HR5 := Lib.hid hr5); (have HB5 := Lib.hid (HBE.out.trans hb5)); (clear hst hr5 hb5); (go_wp2); (go_roundg (n - n))
            case measure => have := HI.out.1; have := HFT.out; omega
            case rel =>
              (have hf := HFT.out); (have hml := HML.out); (refine ⟨n + 1, _, by go_num, Lib.hid ⟨⟨by omega, by omega⟩, ?_, ?_⟩, HR5, HB5⟩)
              · exact span_length l m fr n n HI.out.2.1 hf.1 hf.2.1
              · rw [HI.out.2.2]
                exact span_last l m fr n HI.out.2.1 hf.1 HJ.out.2
      · have hltz : ¬ (fr : Int) < (n : Int) := by omega
        (go_wp2); (go_ret); (refine ⟨_, rfl, ?_, HB2.out.trans (HB.out.mono (Nat.le_succ _))⟩)
        have e : ordL l m0 = m := by
          (rw [HI.out.2.2, List.take_of_length_le (by rw [HI.out.2.1]; omega), List.drop_of_length_le (by rw [HI.out.2.1]; omega)]); (exact List.append_nil m)
        (rw [e]); (have := HR.out.to_R (base := w.heap.size) (Nat.le_of_succ_le HG.out)); (rw [HI.out.2.1] at this); (exact this)
end Go.Proofs.YtmjnipifpeehgaaDoor.Q.I
namespace Go.Proofs.YtmjnipifpeehgaaDoor.Q
open Go.RowKit Go.Proofs.YtmjnipifpeehgaaDoorW.PrintWords Go.Proofs.YtmjnipifpeehgaaDoorW.PrintLast Go.Proofs.YtmjnipifpeehgaaDoorW.PrintMore
/-- no class is below nought -/
def clsOk (l : List S43) : Bool := l.all (fun y => decide (0 ≤ y.f1))
theorem clsOk_pos {l : List S43} (h : clsOk l = true) (x : Int) : 0 ≤ clsOf l x := by
  unfold clsOf
  cases hf : l.find? (fun y => y.f0 == x) with
  | none => exact Int.le_refl _
  | some y => exact of_decide_eq_true (List.all_eq_true.1 h y (List.mem_of_find?_eq_some hf))
def nfc_Ordered.f (l0_0 : List (S71)) (l0_1 : List (S43)) (l0_2 : List (S45)) (l0_3 : List (S85)) (l0_4 : List (S91)) (l1 : List Int) : Option (List Int) := if l0_1.length ≤ 1073741824 ∧ l1.length ≤ 1073741824 ∧ clsOk l0_1 = true then some (I.ordL l0_1 l1) else none
theorem nfc_Ordered.calls (A0_0 : Option Addr) (c0_0 : Nat) (l0_0 : List (S71)) (A0_1 : Option Addr) (c0_1 : Nat) (l0_1 : List (S43)) (A0_2 : Option Addr) (c0_2 : Nat) (l0_2 : List (S45)) (A0_3 : Option Addr) (c0_3 : Nat) (l0_3 : List (S85)) (A0_4 : Option Addr) (c0_4 : Nat) (l0_4 : List (S91)) (A1 : Option Addr) (c1 : Nat) (l1 : List Int) (r : List Int) (w : World) (hr0_0 : Kd.C k71 w A0_0 l0_0.length l0_0) (hc0_0 : l0_0.length ≤ c0_0) (hr0_1 : Kd.C k43 w A0_1 l0_1.length l0_1) (hc0_1 : l0_1.length ≤ c0_1) (hr0_2 : Kd.C k45 w A0_2 l0_2.length l0_2) (hc0_2 : l0_2.length ≤ c0_2) (hr0_3 : Kd.C k85 w A0_3 l0_3.length l0_3) (hc0_3 : l0_3.length ≤ c0_3) (hr0_4 : Kd.C k91 w A0_4 l0_4.length l0_4) (hc0_4 : l0_4.length ≤ c0_4) (hr1 : Kd.C (Kd.int .i32) w A1 l1.length l1) (hc1 : l1.length ≤ c1) (h : nfc_Ordered.f l0_0 l0_1 l0_2 l0_3 l0_4 l1 = some r) :
    Calls Tryd.prog 9 #[.agg #[.slice A0_0 l0_0.length c0_0, .slice A0_1 l0_1.length c0_1, .slice A0_2 l0_2.length c0_2, .slice A0_3 l0_3.length c0_3, .slice A0_4 l0_4.length c0_4], .slice A1 l1.length c1] w fun e w' => ∃ v0_ : Value, e = .returned (v0_) ∧ Kd.R (Kd.int .i32) 21 w' w.heap.size (fun _ => True) v0_ r ∧ Below w.heap.size w w' := by
  unfold nfc_Ordered.f at h
  split at h
  · rename_i hs
    (obtain rfl := Option.some.inj h); (exact I.ordered_any _ _ _ _ A0_1 A1 c0_1 c1 l0_1 l1 w hs.1 hs.2.1 hc1 (clsOk_pos hs.2.2) hr0_1 hr1)
  · cases h
end Go.Proofs.YtmjnipifpeehgaaDoor.Q
