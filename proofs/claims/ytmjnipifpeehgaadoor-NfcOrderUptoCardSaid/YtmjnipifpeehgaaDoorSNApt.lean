/- nfc.Apart: runes taken apart, over a table that is looked at first. Written by naptgen.py. -/
import Derived.Test.YtmjnipifpeehgaaDoorSNTak
import Derived.Test.YtmjnipifpeehgaaDoorSNChk
set_option linter.unusedSimpArgs false
set_option linter.unusedVariables false
namespace Go.Proofs.YtmjnipifpeehgaaDoor.Q
open Go.RowKit Go.Proofs.YtmjnipifpeehgaaDoorW.PrintWords Go.Proofs.YtmjnipifpeehgaaDoorW.PrintLast Go.Proofs.YtmjnipifpeehgaaDoorW.PrintMore
theorem rightG_all {α : Type} (fr te : α → Int) (q : α → Bool) : ∀ (l : List α) (last : Int), rightG fr te q last l = true → ∀ x ∈ l, q x = true
  | [], _, _, x, hx => by cases hx
  | y :: t, last, h, x, hx => by
    (unfold rightG at h); (simp only [Bool.and_eq_true] at h)
    rcases List.mem_cons.1 hx with rfl | hx
    · exact h.1.2
    · exact rightG_all fr te q t _ h.2 x hx
theorem encode_neg (a : Int) (h : a < 0) : (Utf8.encode a).toList = [239, 191, 189] := by
  have hv : Utf8.valid a = false := by
    (unfold Utf8.valid); (rw [decide_eq_false (show ¬ 0 ≤ a by omega), decide_eq_false (show ¬ 0xE000 ≤ a by omega)]); (rfl)
  unfold Utf8.encode
  rw [hv, Go.ByteArray.toList_eq]
  simp only [Bool.false_eq_true, if_false, Utf8.runeError]
  decide
theorem mayF_pos (a : Int) (h : mayF a = true) : 0 ≤ a := by
  rcases Int.lt_or_le a 0 with hn | hp
  · exfalso
    (unfold mayF tables_may.f utf_Valid.f at h); (rw [if_pos (by have := encode_small a; omega), Option.bind_some, encode_neg a hn, if_neg (show ¬ a = 65533 by omega)] at h)
    split at h <;> simp at h
  · exact hp
theorem pairs_well {l : List S45} (h : okPairs l = true) : ∀ x ∈ l, x.f1 < x.f0 ∧ x.f2 < x.f0 ∧ 0 ≤ x.f1 ∧ 0 ≤ x.f2 := fun x hx => by
  have := rightG_all _ _ _ l _ h x hx
  unfold pairFine at this
  simp only [Bool.and_eq_true, decide_eq_true_eq] at this
  exact ⟨this.2.2.1, this.2.2.2.1, mayF_pos _ this.1, mayF_pos _ this.2.1⟩
/-- runes taken apart -/
def decAll (l2 : List S45) (l : List Int) : List Int := l.flatMap fun r => dec l2 (r.toNat + 1) r
def apt (l0 : List S71) (l1 : List S43) (l2 : List S45) (l3 : List S85) (l4 : List S91) (l : List Int) : List Int × Int :=
  if chk l0 l1 l2 l3 l4 = 0 then (if l.length ≤ 4096 then (if (decAll l2 l).length ≤ 4096 then (decAll l2 l, 0) else ([], 3)) else ([], 3)) else ([], chk l0 l1 l2 l3 l4)
def pairsWf (l : List S45) : Bool := l.all fun x => wf32 x.f1 && wf32 x.f2
theorem decAll_snoc (l2 : List S45) (l : List Int) (r : Int) : decAll l2 (l ++ [r]) = decAll l2 l ++ dec l2 (r.toNat + 1) r := by unfold decAll; simp
theorem tabOk_of_chk {l0 : List S71} {l1 : List S43} {l2 : List S45} {l3 : List S85} {l4 : List S91} (h : chk l0 l1 l2 l3 l4 = 0) : tabOk l0 l1 l2 l3 l4 = true := by
  unfold chk at h
  split at h
  · split at h
    · assumption
    · cases h
  · cases h
theorem okPairs_of_chk {l0 : List S71} {l1 : List S43} {l2 : List S45} {l3 : List S85} {l4 : List S91} (h : chk l0 l1 l2 l3 l4 = 0) : okPairs l2 = true := by
  have := tabOk_of_chk h
  unfold tabOk at this
  simp only [Bool.and_eq_true] at this
  exact this.1.1.1.2
theorem len_of_chk {l0 : List S71} {l1 : List S43} {l2 : List S45} {l3 : List S85} {l4 : List S91} (h : chk l0 l1 l2 l3 l4 = 0) : l2.length ≤ 1024 := by
  unfold chk at h
  split at h
  · rename_i h'; exact h'.2.2.1
  · cases h
set_option maxHeartbeats 8000000 in
set_option maxRecDepth 100000 in
theorem apart_any (A0 : Option Addr) (c0 : Nat) (l0 : List S71) (A1 : Option Addr) (c1 : Nat) (l1 : List S43) (A2 : Option Addr) (c2 : Nat) (l2 : List S45) (A3 : Option Addr) (c3 : Nat) (l3 : List S85) (A4 : Option Addr) (c4 : Nat) (l4 : List S91) (A : Option Addr) (c : Nat) (l : List Int) (w : World) (h0 : Kd.C k71 w A0 l0.length l0) (h1 : Kd.C k43 w A1 l1.length l1) (h2 : Kd.C k45 w A2 l2.length l2) (h3 : Kd.C k85 w A3 l3.length l3) (h4 : Kd.C k91 w A4 l4.length l4) (hT : UTabs w) (hwf : ∀ x ∈ l2, wf32 x.f1 = true ∧ wf32 x.f2 = true) (hC : Kd.C (Kd.int .i32) w A l.length l) :
    Calls Tryd.prog 12 #[.agg #[.slice A0 l0.length c0, .slice A1 l1.length c1, .slice A2 l2.length c2, .slice A3 l3.length c3, .slice A4 l4.length c4], .slice A l.length c] w fun e w' => ∃ v, e = .returned (.tuple #[v, .int .i64 (apt l0 l1 l2 l3 l4 l).2]) ∧ Kd.R (Kd.int .i32) 21 w' w.heap.size (fun _ => True) v (apt l0 l1 l2 l3 l4 l).1 ∧ Below w.heap.size w w' := by
  obtain ⟨R1, hR1⟩ : ∃ R, R = (apt l0 l1 l2 l3 l4 l).1 := ⟨_, rfl⟩
  obtain ⟨R2, hR2⟩ : ∃ R, R = (apt l0 l1 l2 l3 l4 l).2 := ⟨_, rfl⟩
  rw [← hR1, ← hR2]
  have hB1 := belowA w (.cells #[.slice A0 l0.length c0, .slice A1 l1.length c1, .slice A2 l2.length c2, .slice A3 l3.length c3, .slice A4 l4.length c4] 28)
  have hbx := heapNewS w (.cells #[.slice A0 l0.length c0, .slice A1 l1.length c1, .slice A2 l2.length c2, .slice A3 l3.length c3, .slice A4 l4.length c4] 28)
  have hck := check_any A0 c0 l0 A1 c1 l1 A2 c2 l2 A3 c3 l3 A4 c4 l4 _ (Kd.C_below h0 hB1) (Kd.C_below h1 hB1) (Kd.C_below h2 hB1) (Kd.C_below h3 hB1) (Kd.C_below h4 hB1) (UTabs.below hT hB1) hwf
  have HR := Lib.hid (And.intro hR1 hR2)
  clear hR1 hR2
  obtain ⟨K, hK⟩ : ∃ K, K = chk l0 l1 l2 l3 l4 := ⟨_, rfl⟩
  rw [← hK] at hck
  have HK := Lib.hid hK
  have HB1 := Lib.hid hB1
  have HBX := Lib.hid hbx
  have HC := Lib.hid hC
  have HC2 := Lib.hid h2
  clear h0 h1 h2 h3 h4 hT hwf hK hB1 hC
  have y0 : ∀ k v, (#[.slice A0 l0.length c0, .slice A1 l1.length c1, .slice A2 l2.length c2, .slice A3 l3.length c3, .slice A4 l4.length c4] : Array Value)[k]? = some v → (w.alloc (.cells #[.slice A0 l0.length c0, .slice A1 l1.length c1, .slice A2 l2.length c2, .slice A3 l3.length c3, .slice A4 l4.length c4] 28)).cell? ⟨w.heap.size, k, none⟩ = some v := fun k v h => (Lib.cell_of_heap hbx k).trans h
  have z0 := y0 0 _ rfl
  have z1 := y0 1 _ rfl
  have z2 := y0 2 _ rfl
  have z3 := y0 3 _ rfl
  have z4 := y0 4 _ rfl
  clear y0 hbx
  generalize hnl : l.length = n at *
  go_enter Tryd.func12, Tryd.ntmps12
  go_wp2_with fail
  refine hck.mono ?_
  rintro e w2 ⟨rfl, hb2⟩
  have hbx2 := (hb2.block w.heap.size (by simp)).trans HBX.out
  have HB2 := Lib.hid (HB1.out.trans (hb2.mono HB1.out.size))
  have HSZ := Lib.hid (show w.heap.size + 1 ≤ w2.heap.size from by have := hb2.size; simp at this; omega)
  clear hck hb2 z0 z1 z2 z3 z4
  have z0 : w2.cell? ⟨w.heap.size, 0, none⟩ = some (.slice A0 l0.length c0) := (Lib.cell_of_heap hbx2 0).trans rfl
  have z1 : w2.cell? ⟨w.heap.size, 1, none⟩ = some (.slice A1 l1.length c1) := (Lib.cell_of_heap hbx2 1).trans rfl
  have z2 : w2.cell? ⟨w.heap.size, 2, none⟩ = some (.slice A2 l2.length c2) := (Lib.cell_of_heap hbx2 2).trans rfl
  have z3 : w2.cell? ⟨w.heap.size, 3, none⟩ = some (.slice A3 l3.length c3) := (Lib.cell_of_heap hbx2 3).trans rfl
  have z4 : w2.cell? ⟨w.heap.size, 4, none⟩ = some (.slice A4 l4.length c4) := (Lib.cell_of_heap hbx2 4).trans rfl
  clear hbx2
  by_cases hk0 : K = 0
  · have hkb : (K != 0) = false := by rw [hk0]; rfl
    (have hok : chk l0 l1 l2 l3 l4 = 0 := HK.out.symm.trans hk0); (have HOK := Lib.hid hok); (clear hk0 hok)
    by_cases hbig : n ≤ 4096
    · have hbz : ¬ (4096 : Int) < (n : Int) := by omega
      (have hwell := pairs_well (okPairs_of_chk HOK.out)); (have hlen2 := len_of_chk HOK.out); (have HBG := Lib.hid hbig)
      have hT0 : TakI (w2.heap.size) w.heap.size (.slice A0 l0.length c0) (.slice A1 l1.length c1) (.slice A2 l2.length c2) (.slice A3 l3.length c3) (.slice A4 l4.length c4) (w2.alloc (.cells #[.slice A0 l0.length c0, .slice A1 l1.length c1, .slice A2 l2.length c2, .slice A3 l3.length c3, .slice A4 l4.length c4, .slice none 0 0, .bool false] 56)) (.slice none 0 0) false (decAll l2 (l.take 0)) :=
        ⟨heapNewS _ _, HB2.out.size, fun i hi => by simp [Value.ownBlock] at hi, ⟨_, _, _, rfl⟩, [], by simp, Kd.R_nil _ _ _ _ _, .inl ⟨rfl, rfl⟩⟩
      (have HT0 := Lib.hid hT0); (have HB3 := Lib.hid (show Below w.heap.size w (w2.alloc (.cells #[.slice A0 l0.length c0, .slice A1 l1.length c1, .slice A2 l2.length c2, .slice A3 l3.length c3, .slice A4 l4.length c4, .slice none 0 0, .bool false] 56)) from HB2.out.trans ((belowA w2 _).mono HB2.out.size))); (have htk := take_calls w2.heap.size w.heap.size (.slice A0 l0.length c0) (.slice A1 l1.length c1) (.slice A3 l3.length c3) (.slice A4 l4.length c4) A2 c2 w l2 (by omega) HC2.out (Nat.le_refl _) hwell); (have HTK := Lib.hid htk); (clear hT0 hwell hlen2 htk hbig); (go_wp2_with fail)
      go_loopg [23] n (fun gg s23 wr => ∃ (kk : Nat) (v : Value) (fl : Bool), s23 = .int .i64 kk ∧ Hid ((kk ≤ n ∧ n - kk ≤ gg) ∧ TakI (w2.heap.size) w.heap.size (.slice A0 l0.length c0) (.slice A1 l1.length c1) (.slice A2 l2.length c2) (.slice A3 l3.length c3) (.slice A4 l4.length c4) wr v fl (decAll l2 (l.take kk)) ∧ Below w.heap.size w wr))
      case atStart => exact ⟨0, .slice none 0 0, false, rfl, Lib.hid ⟨⟨Nat.zero_le _, by omega⟩, HT0.out, HB3.out⟩⟩
      case round =>
        (obtain ⟨kk, v, fl, rfl, HJ⟩ := hrel); (have hkn := HJ.out.1)
        by_cases hlt : kk < n
        · have hltz : (kk : Int) < (n : Int) := by omega
          (have HCW := Lib.hid (Kd.C_below HC.out HJ.out.2.2)); (obtain ⟨ad, rfl, k0⟩ := runeAt HCW.out kk hlt); (obtain ⟨r, hr⟩ : ∃ r, r = l.getD kk 0 := ⟨_, rfl⟩); (rw [← hr] at k0); (have HRR := Lib.hid (show l[kk]? = some r from by rw [hr]; simp [List.getD_eq_getElem?_getD, hnl, hlt])); (have hcall := HTK.out (r.toNat + 1) r wr v fl (decAll l2 (l.take kk)) (by omega) HJ.out.2.1 HJ.out.2.2 HJ.out.2.2.size); (clear hr HCW); (go_wp2_with fail); (refine hcall.mono ?_); (rintro e w5 ⟨rfl, v5, fl5, hT5, hS5⟩); (have HT5 := Lib.hid hT5)
          have HB5 := Lib.hid (HJ.out.2.2.trans (hS5.below HJ.out.2.1.2.1 (fun i hi => (HJ.out.2.1.2.2.1 i hi).1) HJ.out.2.2.size))
          (clear hcall hT5 hS5 k0); (go_wp2); (go_roundg (n - (kk + 1)))
          case measure => omega
          case rel =>
            (have hn9 := HBG.out); (refine ⟨kk + 1, v5, fl5, by go_num, Lib.hid ⟨⟨by omega, by omega⟩, ?_, HB5.out⟩⟩); (rw [List.take_add_one, HRR.out]); (rw [show l.take kk ++ (some r).toList = l.take kk ++ [r] from rfl, decAll_snoc]); (exact HT5.out)
        · have hltz : ¬ (kk : Int) < (n : Int) := by omega
          (obtain rfl : kk = n := by omega); (obtain ⟨q1, q2, q3, ⟨nn, cc, aa, rfl⟩, Y, q5, q6, q7⟩ := HJ.out.2.1); (rw [List.take_of_length_le (by omega)] at q7); (have y6 : wr.cell? ⟨w2.heap.size, 6, none⟩ = some (.bool fl) := (Lib.cell_of_heap q1 6).trans rfl); (have y5 : wr.cell? ⟨w2.heap.size, 5, none⟩ = some (.slice aa nn cc) := (Lib.cell_of_heap q1 5).trans rfl); (have HQ := Lib.hid (And.intro q5 (And.intro q6 q7))); (clear q1 q2 q3 q5 q6 q7)
          cases fl with
          | true =>
            have h7 : 4096 < (decAll l2 l).length := by
              rcases HQ.out.2.2 with ⟨h, _⟩ | ⟨_, h⟩
              · cases h
              · exact h
            (have HE := Lib.hid (show apt l0 l1 l2 l3 l4 l = ([], 3) from by unfold apt; rw [if_pos HOK.out, if_pos (by rw [hnl]; exact HBG.out), if_neg (by omega)])); (clear h7); (go_wp2); (go_ret2); (exact ⟨_, by rw [HR.out.2, HE.out] <;> rfl, by rw [HR.out.1, HE.out]; exact Kd.R_nil _ _ _ _ _, HJ.out.2.2⟩)
          | false =>
            have h7 : Y = decAll l2 l := by
              rcases HQ.out.2.2 with ⟨_, h⟩ | ⟨h, _⟩
              · exact h
              · cases h
            (have HE := Lib.hid (show apt l0 l1 l2 l3 l4 l = (Y, 0) from by unfold apt; rw [if_pos HOK.out, if_pos (by rw [hnl]; exact HBG.out), if_pos (by rw [← h7]; exact HQ.out.1), h7])); (clear h7); (go_wp2); (go_ret2)
            exact ⟨_, by rw [HR.out.2, HE.out] <;> rfl, by rw [HR.out.1, HE.out]; exact Kd.R_mono HQ.out.2.1 (fun _ _ => trivial), HJ.out.2.2⟩
    · have hbz : (4096 : Int) < (n : Int) := by omega
      (have HE := Lib.hid (show apt l0 l1 l2 l3 l4 l = ([], 3) from by unfold apt; rw [if_pos HOK.out, if_neg (by rw [hnl]; exact hbig)])); (clear hbig); (go_wp2); (go_ret2); (exact ⟨_, by rw [HR.out.2, HE.out] <;> rfl, by rw [HR.out.1, HE.out]; exact Kd.R_nil _ _ _ _ _, HB2.out⟩)
  · have hkb : (K != 0) = true := bne_iff_ne.2 hk0
    (have HE := Lib.hid (show apt l0 l1 l2 l3 l4 l = ([], K) from by unfold apt; rw [← HK.out, if_neg hk0])); (clear hk0); (go_wp2); (go_ret2); (exact ⟨_, by rw [HR.out.2, HE.out] <;> rfl, by rw [HR.out.1, HE.out]; exact Kd.R_nil _ _ _ _ _, HB2.out⟩)
def nfc_Apart.f (l0_0 : List (S71)) (l0_1 : List (S43)) (l0_2 : List (S45)) (l0_3 : List (S85)) (l0_4 : List (S91)) (l1 : List Int) : Option (List Int × Int) := if pairsWf l0_2 = true then some (apt l0_0 l0_1 l0_2 l0_3 l0_4 l1) else none
theorem nfc_Apart.calls (A0_0 : Option Addr) (c0_0 : Nat) (l0_0 : List (S71)) (A0_1 : Option Addr) (c0_1 : Nat) (l0_1 : List (S43)) (A0_2 : Option Addr) (c0_2 : Nat) (l0_2 : List (S45)) (A0_3 : Option Addr) (c0_3 : Nat) (l0_3 : List (S85)) (A0_4 : Option Addr) (c0_4 : Nat) (l0_4 : List (S91)) (A1 : Option Addr) (c1 : Nat) (l1 : List Int) (r1 : List Int) (r2 : Int) (w : World) (hr0_0 : Kd.C k71 w A0_0 l0_0.length l0_0) (hc0_0 : l0_0.length ≤ c0_0) (hr0_1 : Kd.C k43 w A0_1 l0_1.length l0_1) (hc0_1 : l0_1.length ≤ c0_1) (hr0_2 : Kd.C k45 w A0_2 l0_2.length l0_2) (hc0_2 : l0_2.length ≤ c0_2) (hr0_3 : Kd.C k85 w A0_3 l0_3.length l0_3) (hc0_3 : l0_3.length ≤ c0_3) (hr0_4 : Kd.C k91 w A0_4 l0_4.length l0_4) (hc0_4 : l0_4.length ≤ c0_4) (hr1 : Kd.C (Kd.int .i32) w A1 l1.length l1) (hc1 : l1.length ≤ c1) (hT : UTabs w) (h : nfc_Apart.f l0_0 l0_1 l0_2 l0_3 l0_4 l1 = some (r1, r2)) :
    Calls Tryd.prog 12 #[.agg #[.slice A0_0 l0_0.length c0_0, .slice A0_1 l0_1.length c0_1, .slice A0_2 l0_2.length c0_2, .slice A0_3 l0_3.length c0_3, .slice A0_4 l0_4.length c0_4], .slice A1 l1.length c1] w fun e w' => ∃ v0_ : Value, e = .returned (.tuple #[v0_, .int .i64 r2]) ∧ Kd.R (Kd.int .i32) 21 w' w.heap.size (fun _ => True) v0_ r1 ∧ Below w.heap.size w w' := by
  unfold nfc_Apart.f at h
  split at h
  · rename_i hs
    have e := Option.some.inj h
    have := apart_any A0_0 c0_0 l0_0 A0_1 c0_1 l0_1 A0_2 c0_2 l0_2 A0_3 c0_3 l0_3 A0_4 c0_4 l0_4 A1 c1 l1 w hr0_0 hr0_1 hr0_2 hr0_3 hr0_4 hT (fun x hx => by have := List.all_eq_true.1 hs x hx; simpa using this) hr1
    (rw [e] at this); (exact this)
  · cases h
end Go.Proofs.YtmjnipifpeehgaaDoor.Q
