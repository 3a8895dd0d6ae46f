/- query.Print: what it answers. -/
import Derived.Test.YtbcbmmlpgdndpaaDoorSQText
import Derived.Test.YtbcbmmlpgdndpaaDoorSB7
set_option linter.unusedSimpArgs false
set_option linter.unusedVariables false
namespace Go.Proofs.YtbcbmmlpgdndpaaDoor.Q
open Go.RowKit Go.Proofs.YtbcbmmlpgdndpaaDoorW.PrintWords Go.Proofs.YtbcbmmlpgdndpaaDoorW.PrintLast Go.Proofs.YtbcbmmlpgdndpaaDoorW.PrintMore Go.Proofs.YtbcbmmlpgdndpaaDoor.P1 Go.Proofs.YtbcbmmlpgdndpaaDoor.Qu
/-- a pair, as texts -/
def pt (x : Fld) : List UInt8 × List UInt8 := (x.f0.data.toList, x.f1.data.toList)
def scp (p : List UInt8 × List UInt8) : List UInt8 × List UInt8 := (scal p.1, scal p.2)
/-- a form's text -/
def prtF (l : List Fld) : List UInt8 := prt (l.map fun x => scp (pt x))
theorem prt_snoc (p : List UInt8 × List UInt8) : ∀ l : List (List UInt8 × List UInt8), prt (l ++ [p]) = prt l ++ (if l = [] then [] else [38]) ++ (quL p.1 ++ 61 :: quL p.2)
  | [] => by simp [prt]
  | [q] => by simp [prt]
  | q :: r :: l => by
    have h := prt_snoc p (r :: l)
    simp only [List.cons_append, prt] at h ⊢
    rw [h]; simp
theorem prtF_snoc (l : List Fld) (x : Fld) : prtF (l ++ [x]) = prtF l ++ (if l = [] then [] else [38]) ++ (fw (pt x).1 ++ 61 :: fw (pt x).2) := by
  unfold prtF
  rw [List.map_append, List.map_cons, List.map_nil, prt_snoc]
  simp [scp, fw]
def shortP (x : Fld) : Prop := x.f0.size ≤ 4096 ∧ x.f1.size ≤ 4096
theorem short_of {x : Fld} (h : longP x.f0 x.f1 = false) : shortP x := by unfold longP at h; unfold shortP; have := of_decide_eq_false h; omega
theorem prtF_len (n : Nat) : ∀ l : List Fld, l.length ≤ n → (∀ x ∈ l, shortP x) → (prtF l).length ≤ 100000 * l.length := by
  induction n with
  | zero => intro l hl _; obtain rfl : l = [] := List.eq_nil_of_length_eq_zero (by omega); simp [prtF, prt]
  | succ n ih =>
    intro l hl hs
    rcases List.eq_nil_or_concat l with rfl | ⟨m, x, rfl⟩
    · simp [prtF, prt]
    · rw [List.concat_eq_append] at hl hs ⊢
      rw [prtF_snoc]
      have h1 := ih m (by simp at hl; omega) (fun y hy => hs y (by simp [hy]))
      obtain ⟨h2, h3⟩ := hs x (by simp)
      have h4 := fw_len (pt x).1
      have h5 := fw_len (pt x).2
      have e1 : (pt x).1.length = x.f0.size := by simp [pt]
      have e2 : (pt x).2.length = x.f1.size := by simp [pt]
      have h6 : (if m = [] then ([] : List UInt8) else [38]).length ≤ 1 := by split <;> simp
      simp only [List.length_append, List.length_cons, List.length_nil] at h6 ⊢
      omega
def query_Print.f (l0 : List Fld) : Option (ByteArray × Int) :=
  if 256 < l0.length then some (⟨#[]⟩, 3) else if l0.any (fun x => longP x.f0 x.f1) then some (⟨#[]⟩, 4) else some (B (prtF l0), 0)
/-- what the builder holds at the head of a round -/
def bld (B0 b k : Nat) (t : List UInt8) (w : World) : Prop :=
  (k = 0 ∧ w.heap[b]? = some (.cells #[.pointer none, .slice none 0 0] 49 (0, 0)) ∧ B0 ≤ b) ∨ (0 < k ∧ Tryd.WrAt B0 b (.pointer (some ⟨b, 0, none⟩)) (Lib.byteCells t) w)
theorem bld_wr {B0 b k : Nat} {l : List Fld} {w : World} (h : bld B0 b k (prtF (l.take k)) w) : Tryd.Wr B0 b (Lib.byteCells (prtF (l.take k))) w := by
  rcases h with ⟨rfl, h, hB⟩ | ⟨_, h⟩
  · refine .inl ⟨hB, _, h, ⟨rfl, .inl ⟨rfl, rfl⟩⟩, ?_⟩
    simp [Value.ownBlock]
  · exact .inr h
theorem prtF_take (l : List Fld) (k : Nat) (h : k < l.length) : prtF (l.take (k + 1)) = prtF (l.take k) ++ (if k = 0 then [] else [38]) ++ (fw (pt (rd_T32 l k)).1 ++ 61 :: fw (pt (rd_T32 l k)).2) := by
  rw [List.take_succ_eq_append_getElem h, prtF_snoc, rd_F l k h]
  congr 2
  by_cases hk : k = 0
  · subst hk; simp
  · rw [if_neg hk, if_neg (by simp [hk]; intro h0; subst h0; simp at h)]
set_option maxHeartbeats 4000000 in
set_option maxRecDepth 100000 in
theorem print_good (A : Option Addr) (c : Nat) (l : List Fld) (w : World) (hC : Kd.C kF w A l.length l) (hn : l.length ≤ 256) (hs : l.any (fun x => longP x.f0 x.f1) = false) (hT : UTabs w) :
    Calls Tryd.prog 9 #[.slice A l.length c] w fun e w' => e = .returned (.tuple #[.string (B (prtF l)), .int .i64 0]) ∧ Below w.heap.size w w' := by
  have hsh : ∀ x ∈ l, shortP x := fun x hx => short_of (by have := List.any_eq_false.1 hs x hx; simpa using this)
  have hhas := fldHas_calls A c l longP 25 #[] (enters_of Tryd.func25 (by kernel_rfl) rfl) w (by omega) hC (fun W x v _ => long_calls x v W)
  rw [hs] at hhas
  have HC := Lib.hid hC
  have HT := Lib.hid hT
  have HSH := Lib.hid hsh
  have hgt : decide (256 < (l.length : Int)) = false := decide_eq_false (by omega)
  have HN := Lib.hid hn
  clear hC hT hsh hs hn
  generalize hnl : l.length = n at *
  go_enter Tryd.func9, Tryd.ntmps9
  go_wp2_with fail
  refine hhas.mono ?_
  rintro e w1 ⟨rfl, hb1⟩
  clear hhas
  go_wp2_with fail
  have hb2 : Below w.heap.size w (w1.alloc (.cells #[.pointer none, .slice none 0 0] 49)) := hb1.alloc hb1.size _
  have hx2 : (w1.alloc (.cells #[.pointer none, .slice none 0 0] 49)).heap[w1.heap.size]? = some (.cells #[.pointer none, .slice none 0 0] 49 (0, 0)) := heap_new _ _
  have hb : w.heap.size ≤ w1.heap.size := hb1.size
  clear hb1
  generalize w1.heap.size = b at *
  generalize w1.alloc (.cells #[.pointer none, .slice none 0 0] 49) = w2 at *
  go_loopg [16] n (fun gg s16 wr => ∃ kk : Nat, kk ≤ n ∧ n - kk ≤ gg ∧ s16 = .int .i64 kk ∧ Hid (Below w.heap.size w wr) ∧ Hid (bld w.heap.size b kk (prtF (l.take kk)) wr))
  case atStart => exact ⟨0, Nat.zero_le _, by omega, rfl, Lib.hid hb2, Lib.hid (.inl ⟨rfl, hx2, hb⟩)⟩
  case round =>
    clear hx2 hb2 w2
    obtain ⟨kk, hkk, hg, rfl, BW, HA⟩ := hrel
    by_cases hlt : kk < n
    · have hltz : (kk : Int) < (n : Int) := by omega
      obtain ⟨ad, rfl, k0, k1⟩ := at_T32 (Kd.C_below HC.out BW.out) (kk : Int) (by omega) (by omega)
      rw [Int.toNat_natCast] at k0 k1
      have HM := Lib.hid (prtF_take l kk (by omega))
      have HSX := Lib.hid (HSH.out (rd_T32 l kk) (by rw [rd_F l kk (by omega)]; exact List.getElem_mem _))
      generalize rd_T32 l (kk : Int) = x at *
      have HL0 := Lib.hid (show (prtF (l.take kk)).length ≤ 25600000 by
        have := prtF_len (l.take kk).length (l.take kk) (Nat.le_refl _) (fun y hy => HSH.out y (List.mem_of_mem_take hy))
        have h2 : (l.take kk).length ≤ 256 := by rw [List.length_take]; have := HN.out; omega
        omega)
      have HX0 := Lib.hid (fw_len (pt x).1)
      have HX1 := Lib.hid (fw_len (pt x).2)
      have HE := Lib.hid (show (pt x).1.length ≤ 4096 ∧ (pt x).2.length ≤ 4096 from HSX.out)
      have hwr := bld_wr HA.out
      have hbl := isBuilder_lt hwr
      have hwr0 := isBuilder_below hwr (Below.alloc (Below.refl _ wr) (Nat.le_refl _) (.cells #[.string x.f0, .string x.f1] 32))
      have BW0 := Lib.hid (BW.out.alloc BW.out.size (.cells #[.string x.f0, .string x.f1] 32))
      have PF : (wr.alloc (.cells #[.string x.f0, .string x.f1] 32)).heap[wr.heap.size]? = some (.cells #[.string x.f0, .string x.f1] 32 (0, 0)) := heap_new _ _
      have HPF := Lib.hid PF
      have HWR := Lib.hid hwr0
      have HFB := Lib.hid (show wr.heap.size ≠ b by omega)
      clear PF hwr hwr0 HA HSX
      clear hbl
      generalize prtF (l.take kk) = P at *
      generalize hP1 : prtF (l.take (kk + 1)) = P1 at *
      by_cases h0 : kk = 0
      · have hgt0 : decide (0 < (kk : Int)) = false := decide_eq_false (by omega)
        have hz : ¬ (0 < kk) := by omega
        have H0 := Lib.hid h0
        clear h0
        go_wp2_with fail
        refine (qtext_calls b (Lib.byteCells P) (pt x).1 w _ HT.out BW0.out HWR.out HE.out.1 (by have := HL0.out; simp only [List.length_append, List.length_cons, List.length_nil, Lib.byteCells_length]; omega)).mono ?_
        rintro e W1 ⟨rfl, h1, b1, q1⟩
        have HWR1 := Lib.hid h1
        have BW1 := Lib.hid (BW0.out.trans b1)
        have HPF1 := Lib.hid (q1 _ _ _ _ HPF.out (by decide) HFB.out)
        have HSZ1 := Lib.hid (BW1.out.size)
        clear h1 b1 q1
        have f0 : W1.cell? ⟨wr.heap.size, 0, none⟩ = some (.string x.f0) := by rw [Lib.cell_of_heap HPF1.out]; rfl
        have f1 : W1.cell? ⟨wr.heap.size, 1, none⟩ = some (.string x.f1) := by rw [Lib.cell_of_heap HPF1.out]; rfl
        go_wp2_with fail
        clear f0 f1
        refine (Tryd.wr_byte w.heap.size b _ 61 _ (.inr HWR1.out) (by have := HL0.out; have := HX0.out; have := HE.out; simp only [List.length_append, List.length_cons, List.length_nil, Lib.byteCells_length]; omega) HSZ1.out).mono ?_
        rintro e W2 ⟨rfl, h2, b2, q2⟩
        have HWR2 := Lib.hid h2
        have BW2 := Lib.hid (BW1.out.trans b2)
        have HPF2 := Lib.hid (q2 _ _ _ _ HPF1.out (by decide) HFB.out)
        clear h2 b2 q2
        have f0 : W2.cell? ⟨wr.heap.size, 0, none⟩ = some (.string x.f0) := by rw [Lib.cell_of_heap HPF2.out]; rfl
        have f1 : W2.cell? ⟨wr.heap.size, 1, none⟩ = some (.string x.f1) := by rw [Lib.cell_of_heap HPF2.out]; rfl
        go_wp2_with fail
        clear f0 f1
        refine (qtext_calls b _ (pt x).2 w _ HT.out BW2.out (.inr HWR2.out) HE.out.2 (by have := HL0.out; have := HX0.out; have := HE.out; simp only [List.length_append, List.length_cons, List.length_nil, Lib.byteCells_length]; omega)).mono ?_
        rintro e W3 ⟨rfl, h3, b3, q3⟩
        have HWR3 := Lib.hid h3
        have BW3 := Lib.hid (BW2.out.trans b3)
        clear h3 b3 q3
        go_wp2
        go_roundg (n - (kk + 1))
        case measure => omega
        case rel =>
          have hn256 := HN.out
          refine ⟨kk + 1, by omega, by omega, (by first | go_num | (rw [w64 (by omega) (by omega)]; simp)), BW3, Lib.hid (.inr ⟨by omega, ?_⟩)⟩
          have h := HWR3.out
          rw [hP1, HM.out]
          rw [if_pos H0.out]
          simpa [Lib.byteCells, List.map_append] using h
      · have hgt0 : decide (0 < (kk : Int)) = true := decide_eq_true (by omega)
        have hz : 0 < kk := by omega
        have H0 := Lib.hid h0
        clear h0
        go_wp2_with fail
        refine (Tryd.wr_byte w.heap.size b _ 38 _ HWR.out (by have := HL0.out; rw [Lib.byteCells_length]; omega) BW0.out.size).mono ?_
        rintro e W0 ⟨rfl, h0, b0, q0⟩
        have HWR0 := Lib.hid (show Tryd.Wr w.heap.size b (Lib.byteCells P ++ [.int .u8 38]) W0 from .inr h0)
        have BW0' := Lib.hid (BW0.out.trans b0)
        have HPF0 := Lib.hid (q0 _ _ _ _ HPF.out (by decide) HFB.out)
        clear h0 b0 q0
        have f0 : W0.cell? ⟨wr.heap.size, 0, none⟩ = some (.string x.f0) := by rw [Lib.cell_of_heap HPF0.out]; rfl
        have f1 : W0.cell? ⟨wr.heap.size, 1, none⟩ = some (.string x.f1) := by rw [Lib.cell_of_heap HPF0.out]; rfl
        go_wp2_with fail
        clear f0 f1
        refine (qtext_calls b (Lib.byteCells P ++ [.int .u8 38]) (pt x).1 w _ HT.out BW0'.out HWR0.out HE.out.1 (by have := HL0.out; simp only [List.length_append, List.length_cons, List.length_nil, Lib.byteCells_length]; omega)).mono ?_
        rintro e W1 ⟨rfl, h1, b1, q1⟩
        have HWR1 := Lib.hid h1
        have BW1 := Lib.hid (BW0'.out.trans b1)
        have HPF1 := Lib.hid (q1 _ _ _ _ HPF0.out (by decide) HFB.out)
        have HSZ1 := Lib.hid (BW1.out.size)
        clear h1 b1 q1
        have f0 : W1.cell? ⟨wr.heap.size, 0, none⟩ = some (.string x.f0) := by rw [Lib.cell_of_heap HPF1.out]; rfl
        have f1 : W1.cell? ⟨wr.heap.size, 1, none⟩ = some (.string x.f1) := by rw [Lib.cell_of_heap HPF1.out]; rfl
        go_wp2_with fail
        clear f0 f1
        refine (Tryd.wr_byte w.heap.size b _ 61 _ (.inr HWR1.out) (by have := HL0.out; have := HX0.out; have := HE.out; simp only [List.length_append, List.length_cons, List.length_nil, Lib.byteCells_length]; omega) HSZ1.out).mono ?_
        rintro e W2 ⟨rfl, h2, b2, q2⟩
        have HWR2 := Lib.hid h2
        have BW2 := Lib.hid (BW1.out.trans b2)
        have HPF2 := Lib.hid (q2 _ _ _ _ HPF1.out (by decide) HFB.out)
        clear h2 b2 q2
        have f0 : W2.cell? ⟨wr.heap.size, 0, none⟩ = some (.string x.f0) := by rw [Lib.cell_of_heap HPF2.out]; rfl
        have f1 : W2.cell? ⟨wr.heap.size, 1, none⟩ = some (.string x.f1) := by rw [Lib.cell_of_heap HPF2.out]; rfl
        go_wp2_with fail
        clear f0 f1
        refine (qtext_calls b _ (pt x).2 w _ HT.out BW2.out (.inr HWR2.out) HE.out.2 (by have := HL0.out; have := HX0.out; have := HE.out; simp only [List.length_append, List.length_cons, List.length_nil, Lib.byteCells_length]; omega)).mono ?_
        rintro e W3 ⟨rfl, h3, b3, q3⟩
        have HWR3 := Lib.hid h3
        have BW3 := Lib.hid (BW2.out.trans b3)
        clear h3 b3 q3
        go_wp2
        go_roundg (n - (kk + 1))
        case measure => omega
        case rel =>
          have hn256 := HN.out
          refine ⟨kk + 1, by omega, by omega, (by first | go_num | (rw [w64 (by omega) (by omega)]; simp)), BW3, Lib.hid (.inr ⟨by omega, ?_⟩)⟩
          have h := HWR3.out
          rw [hP1, HM.out]
          rw [if_neg H0.out]
          simpa [Lib.byteCells, List.map_append] using h
    · have hltz : ¬ (kk : Int) < (n : Int) := by omega
      obtain rfl : kk = n := by omega
      have hpl : prtF (l.take kk) = prtF l := by rw [List.take_of_length_le (by omega)]
      rw [hpl] at HA
      rcases HA.out with ⟨h0, h1, h2⟩ | ⟨h0, h1⟩
      · have HE := Lib.hid (show l = [] from List.eq_nil_of_length_eq_zero (by omega))
        have hstr := Tryd.wr_none w.heap.size b _ wr h1
        clear h0 h1 h2 HA
        go_wp2_with fail
        refine hstr.mono ?_
        rintro e w5 ⟨rfl, h5⟩
        have HB5 := Lib.hid (BW.out.trans h5)
        clear h5 hstr
        go_wp2
        go_ret2
        exact ⟨by rw [HE.out]; rfl, HB5.out⟩
      · have hstr := Tryd.wr_string w.heap.size b (prtF l) wr h1 (by
          intro h
          have h3 : l ≠ [] := by intro e; subst e; simp at hnl; omega
          rcases List.eq_nil_or_concat l with e | ⟨m, y, e⟩
          · exact h3 e
          · rw [e, List.concat_eq_append, prtF_snoc] at h; simp at h)
        clear h1 HA
        go_wp2_with fail
        refine hstr.mono ?_
        rintro e w5 ⟨rfl, h5⟩
        have HB5 := Lib.hid (BW.out.trans h5)
        clear h5 hstr
        go_wp2
        go_ret2
        exact ⟨rfl, HB5.out⟩
theorem query_Print.calls (A0 : Option Addr) (c0 : Nat) (l0 : List Fld) (r1 : ByteArray) (r2 : Int) (w : World) (hr0 : Kd.C kF w A0 l0.length l0) (hc0 : l0.length ≤ c0) (hT : UTabs w) (h : query_Print.f l0 = some (r1, r2)) :
    Calls Tryd.prog 9 #[.slice A0 l0.length c0] w fun e w' => e = .returned (.tuple #[.string r1, .int .i64 r2]) ∧ Below w.heap.size w w' := by
  unfold query_Print.f at h
  by_cases h1 : 256 < l0.length
  · rw [if_pos h1] at h
    cases h
    have hgt : decide (256 < (l0.length : Int)) = true := decide_eq_true (by omega)
    clear hr0 hc0 hT
    generalize l0.length = n at *
    go_enter Tryd.func9, Tryd.ntmps9
    go_wp2
    go_ret2
    exact ⟨rfl, Below.refl _ _⟩
  · rw [if_neg h1] at h
    by_cases h2 : l0.any (fun x => longP x.f0 x.f1) = true
    · rw [if_pos h2] at h
      cases h
      have hhas := fldHas_calls A0 c0 l0 longP 25 #[] (enters_of Tryd.func25 (by kernel_rfl) rfl) w (by omega) hr0 (fun W x v _ => long_calls x v W)
      rw [h2] at hhas
      have hgt : decide (256 < (l0.length : Int)) = false := decide_eq_false (by omega)
      clear hr0 hc0 hT h1 h2
      generalize l0.length = n at *
      go_enter Tryd.func9, Tryd.ntmps9
      go_wp2_with fail
      refine hhas.mono ?_
      rintro e w1 ⟨rfl, hb1⟩
      go_wp2
      go_ret2
      exact ⟨rfl, hb1⟩
    · rw [if_neg h2] at h
      cases h
      exact print_good A0 c0 l0 w hr0 (by omega) (by simpa using h2) hT
end Go.Proofs.YtbcbmmlpgdndpaaDoor.Q
