/- query's writer.text: a text is written behind the others, as a form has it. -/
import Derived.Test.YtbcbmmlpgdndpaaDoorSWrt
import Derived.Test.YtbcbmmlpgdndpaaDoorSB10
import Derived.Test.YtbcbmmlpgdndpaaDoorSB12
import Derived.Test.YtbcbmmlpgdndpaaDoorSEnc
import Derived.Lib.CountLaws
import Derived.Lib.ReplaceLaws
set_option linter.unusedSimpArgs false
set_option linter.unusedVariables false
namespace Go.Proofs.YtbcbmmlpgdndpaaDoor.Q
open Go.RowKit Go.Proofs.YtbcbmmlpgdndpaaDoorW.PrintWords Go.Proofs.YtbcbmmlpgdndpaaDoorW.PrintLast Go.Proofs.YtbcbmmlpgdndpaaDoorW.PrintMore Go.Proofs.YtbcbmmlpgdndpaaDoor.P1 Go.Proofs.YtbcbmmlpgdndpaaDoor.Qu
/-- a text of good runes -/
def scal (l : List UInt8) : List UInt8 := encRunes (uDec l)
theorem scal_len (l : List UInt8) : (scal l).length ≤ 4 * l.length := by
  have h1 := encRunes_len (uDec l)
  have h2 := uDec_length l.length l (Nat.le_refl _)
  unfold scal; omega
/-- a text as a form has it -/
def fw (l : List UInt8) : List UInt8 := quL (scal l)
theorem fw_len (l : List UInt8) : (fw l).length ≤ 12 * l.length := by
  have h1 := scal_len l
  have h2 := quL_length (scal l)
  unfold fw; omega
theorem enc8_f (l : List UInt8) (h : l.length ≤ 35184372088832) : pct_Encode.f (B l) 8 = some (B (encL 8 l), 0) := by
  unfold pct_Encode.f
  rw [if_neg (by omega), if_pos ⟨by omega, by rw [B_size]; exact h⟩]; rfl
theorem form_repl_f (l : List UInt8) (h : l.length ≤ 1000000) : strings_ReplaceAll.f (B (encL 8 l)) ⟨#[37, 50, 48]⟩ ⟨#[43]⟩ = some (B (quL l)) := by
  have h1 := encL_length 8 l
  have h2 := Lib.countB_mul_le (⟨#[37, 50, 48]⟩ : ByteArray) (by decide) _ (B (encL 8 l)) (Nat.le_refl _)
  unfold strings_ReplaceAll.f
  have e3 : (⟨#[37, 50, 48]⟩ : ByteArray).size = 3 := rfl
  have e1 : (⟨#[43]⟩ : ByteArray).size = 1 := rfl
  rw [e3, B_size] at h2
  rw [if_pos ⟨by rw [B_size]; omega, by rw [e3]; omega, by rw [B_size, e1]; omega⟩]
  have := qu_text l
  rw [B_data]
  show some (B (Lib.replaceAll (encL 8 l) [37, 50, 48] [43])) = _
  rw [this]
theorem plus_repl_f (l : List UInt8) (h : l.length ≤ 1000000000) : strings_ReplaceAll.f (B l) ⟨#[43]⟩ ⟨#[32]⟩ = some (B (unq l)) := by
  have h2 := Lib.countB_mul_le (⟨#[43]⟩ : ByteArray) (by decide) _ (B l) (Nat.le_refl _)
  unfold strings_ReplaceAll.f
  have e3 : (⟨#[43]⟩ : ByteArray).size = 1 := rfl
  have e1 : (⟨#[32]⟩ : ByteArray).size = 1 := rfl
  rw [e3, B_size] at h2
  rw [if_pos ⟨by rw [B_size]; omega, by rw [e3]; omega, by rw [B_size, e1]; omega⟩]
  have := un_text l
  rw [B_data]
  show some (B (Lib.replaceAll l [43] [32])) = _
  rw [this]
set_option maxHeartbeats 2000000 in
set_option maxRecDepth 100000 in
theorem qtext_calls (b : Nat) (bs : List Value) (s : List UInt8) (w0 w : World) (hT : UTabs w0) (hb : Below w0.heap.size w0 w) (h : Tryd.Wr w0.heap.size b bs w) (hs : s.length ≤ 4096) (hbs : bs.length ≤ 1000000000) :
    Calls Tryd.prog 27 #[.pointer (some ⟨b, 0, none⟩), .string (B s)] w fun e w' => e = .returned (.tuple #[]) ∧ Tryd.WrAt w0.heap.size b (.pointer (some ⟨b, 0, none⟩)) (bs ++ Lib.byteCells (fw s)) w' ∧ Below w0.heap.size w w' ∧ Tryd.WKeep b w w' := by
  have hsl := scal_len s
  have hfl := fw_len s
  have f1 := utf_Scalar_f s (by omega)
  have f2 := enc8_f (scal s) (by omega)
  have f3 := form_repl_f (scal s) (by omega)
  have k1 := Lib.hid (utf_Scalar.calls (B s) _ w (hT.below hb) f1)
  have k2 := Lib.hid (fun W => pct_Encode.calls (B (scal s)) 8 _ _ W f2)
  have k3 := Lib.hid (fun W (hW : Below w0.heap.size w0 W) => strings_ReplaceAll.calls (B (encL 8 (scal s))) ⟨#[37, 50, 48]⟩ ⟨#[43]⟩ _ W (hT.below hW) f3)
  have HW := Lib.hid h
  have HB := Lib.hid hb
  have HL := Lib.hid (show bs.length + (B (fw s)).size ≤ 140737488355328 by rw [B_size]; omega)
  have e1 : B (encRunes (uDec s)) = B (scal s) := rfl
  have e2 : B (quL (scal s)) = B (fw s) := rfl
  rw [e1] at k1
  rw [e2] at k3
  generalize B s = zs at k1
  generalize B (scal s) = z1 at k1 k2
  generalize B (encL 8 (scal s)) = z2 at k2 k3
  have hz3 := Lib.hid (show Lib.strCells (B (fw s)) = Lib.byteCells (fw s) from rfl)
  generalize B (fw s) = z3 at k3 hz3 HL
  clear f1 f2 f3 e1 e2 hsl hfl h hb hs hbs
  have mixed : Tryd.prog.follows .mixedOrders = true := by kernel_rfl
  go_enter Tryd.func27, Tryd.ntmps27
  go_wp2_with (first | (go_at_call 46; refine k1.out.mono ?_; rintro e w1 ⟨rfl, hb1⟩) | (go_at_call 45; refine (k2.out _).mono ?_; rintro e w2 ⟨rfl, hb2⟩))
  have h1 := Below.trans (hb1.mono (Nat.le_refl _)) (hb2.mono hb1.size)
  have HB2 := Lib.hid (HB.out.trans (h1.mono HB.out.size))
  have HW2 := Lib.hid (isBuilder_below HW.out h1)
  have HS := Lib.hid (h1.mono HB.out.size)
  have HK2 := Lib.hid (Tryd.WKeep.below (b := b) h1)
  clear h1 hb1 hb2 k1 k2
  go_wp2
  have HB2 := Lib.hid (HB2.out.drew)
  have HS := Lib.hid (HS.out.drew)
  have HK3 := Lib.hid (show Tryd.WKeep b w w2.drew from HK2.out)
  have hsz := Lib.hid (show w0.heap.size ≤ w2.drew.heap.size from HB2.out.size)
  have HW2 := Lib.hid (show Tryd.Wr w0.heap.size b bs w2.drew from HW2.out)
  -- REGION
  refine start_ (n := 6) (S := fun w' => True) (ds := []) #[false, false, false, false, false, false] (by kernel_rfl) rfl rfl trivial (fun hHeld => ?_)
  refine pure_ (i := 0) (N := some 12) (v := ?_) (a' := ?_) #[true, false, false, false, false, false] rfl rfl (by kernel_rfl) (fun _ _ _ h => h) (Or.inl ⟨by rfl, ?_⟩) ?_ ?_
  rotate_left
  · intro w'
    go_simp
    with_reducible rfl
  rotate_left
  · simp only [Act.put, List.setIfInBounds_toArray, List.set_cons_zero, List.set_cons_succ, i64_w, i32_w]
    rfl
  refine pure_ (i := 1) (N := some 13) (v := ?_) (a' := ?_) #[true, true, false, false, false, false] rfl rfl (by kernel_rfl) (fun _ _ _ h => h) (Or.inl ⟨by rfl, ?_⟩) ?_ ?_
  rotate_left
  · intro w'
    go_simp
    with_reducible rfl
  rotate_left
  · simp only [Act.put, List.setIfInBounds_toArray, List.set_cons_zero, List.set_cons_succ, i64_w, i32_w]
    rfl
  refine pure_ (i := 2) (N := some 14) (v := ?_) (a' := ?_) #[true, true, true, false, false, false] rfl rfl (by kernel_rfl) (fun _ _ _ h => h) (Or.inl ⟨by rfl, ?_⟩) ?_ ?_
  rotate_left
  · intro w'
    go_simp
    with_reducible rfl
  rotate_left
  · simp only [Act.put, List.setIfInBounds_toArray, List.set_cons_zero, List.set_cons_succ, i64_w, i32_w]
    rfl
  refine pure_ (i := 3) (N := some 15) (v := ?_) (a' := ?_) #[true, true, true, true, false, false] rfl rfl (by kernel_rfl) (fun _ _ _ h => h) (Or.inl ⟨by rfl, ?_⟩) ?_ ?_
  rotate_left
  · intro w'
    go_simp
    with_reducible rfl
  rotate_left
  · simp only [Act.put, List.setIfInBounds_toArray, List.set_cons_zero, List.set_cons_succ, i64_w, i32_w]
    rfl
  refine one_ (i := 4) (N := some 16) #[true, true, true, true, true, false] rfl rfl (by kernel_rfl) (by decide) (fun K hK => ?_)
  refine goes_ Tryd.func48 (by kernel_rfl) rfl #[.string z2, .string ⟨#[37, 50, 48]⟩, .string ⟨#[43]⟩] (by rfl) rfl rfl (by simp only [List.map_toArray, List.map_cons, List.map_nil]; rfl) ?_
  with_reducible refine (k3.out _ HB2.out).mono ?_
  rintro e w4 ⟨rfl, hb4⟩
  refine ⟨_, rfl, ?_⟩
  have HB4 := Lib.hid (HB2.out.trans (hb4.mono hsz.out))
  have HS4 := Lib.hid (HS.out.trans (hb4.mono hsz.out))
  have HW4 := Lib.hid (isBuilder_below HW2.out hb4)
  have hsz4 := Lib.hid (Nat.le_trans hsz.out hb4.size)
  have HK4 := Lib.hid (HK3.out.trans (Tryd.WKeep.below hb4))
  clear hb4
  refine hK.out _ _ trivial (fun hHeld => ?_)
  clear hK K
  refine norm_ (a' := ?_) ?_ ?_
  rotate_left
  · show Act.put _ (some 16) _ = _
    simp only [Act.put, List.setIfInBounds_toArray, List.set_cons_zero, List.set_cons_succ, i64_w, i32_w]
    rfl
  refine one_ (i := 5) (N := some 17) #[true, true, true, true, true, true] rfl rfl (by kernel_rfl) (by decide) (fun K hK => ?_)
  refine goes_ Tryd.func47 (by kernel_rfl) rfl #[.pointer (some ⟨b, 0, none⟩), .string z3] (by rfl) rfl rfl (by simp only [List.map_toArray, List.map_cons, List.map_nil]; rfl) ?_
  with_reducible refine (Tryd.wr_text w0.heap.size b bs z3 _ HW4.out HL.out hsz4.out).mono ?_
  rintro e w5 ⟨rfl, hw5, hb5, hk5⟩
  refine ⟨_, rfl, ?_⟩
  have HW5 := Lib.hid hw5
  have HS5 := Lib.hid (HS4.out.trans hb5)
  have HK5 := Lib.hid (HK4.out.trans hk5)
  clear hw5 hb5 hk5
  refine hK.out _ _ trivial (fun hHeld => ?_)
  clear hK K
  refine norm_ (a' := ?_) ?_ ?_
  rotate_left
  · show Act.put _ (some 17) _ = _
    simp only [Act.put, List.setIfInBounds_toArray, List.set_cons_zero, List.set_cons_succ, i64_w, i32_w]
    rfl
  refine done_ (by kernel_rfl) ?_
  -- END REGION
  go_wp2
  go_end0
  refine ⟨rfl, ?_, HS5.out, HK5.out⟩
  rw [← hz3.out]; exact HW5.out
end Go.Proofs.YtbcbmmlpgdndpaaDoor.Q
