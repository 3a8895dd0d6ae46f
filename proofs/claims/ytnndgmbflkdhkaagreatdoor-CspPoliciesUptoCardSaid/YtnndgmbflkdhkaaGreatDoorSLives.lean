/- lives: the document's own examples. -/
import Derived.Test.YtnndgmbflkdhkaaGreatDoorSSrcL
import Derived.Test.YtnndgmbflkdhkaaGreatDoorSB11
import Derived.Test.YtnndgmbflkdhkaaGreatDoorSParse
set_option linter.unusedSimpArgs false
set_option linter.unusedVariables false
namespace Go.Proofs.YtnndgmbflkdhkaaGreatDoor.Q
open Go.RowKit Go.Proofs.YtnndgmbflkdhkaaGreatDoorW.PrintWords Go.Proofs.YtnndgmbflkdhkaaGreatDoorW.PrintLast Go.Proofs.YtnndgmbflkdhkaaGreatDoorW.PrintMore Go.Proofs.YtnndgmbflkdhkaaGreatDoor.P1
def livesP : List S35 := [⟨B [115, 99, 114, 105, 112, 116, 45, 115, 114, 99], [B [39, 115, 101, 108, 102, 39], B [104, 116, 116, 112, 115, 58]]⟩, ⟨B [105, 109, 103, 45, 115, 114, 99], [B [42]]⟩]
theorem lives_parse : csp_Parse.f ⟨#[83, 99, 114, 105, 112, 116, 45, 83, 114, 99, 32, 39, 115, 101, 108, 102, 39, 32, 32, 104, 116, 116, 112, 115, 58, 32, 59, 59, 32, 105, 109, 103, 45, 115, 114, 99, 32, 42]⟩ false = some (livesP, false, 0) := by
  have hp : parts 59 [83, 99, 114, 105, 112, 116, 45, 83, 114, 99, 32, 39, 115, 101, 108, 102, 39, 32, 32, 104, 116, 116, 112, 115, 58, 32, 59, 59, 32, 105, 109, 103, 45, 115, 114, 99, 32, 42] = [[83, 99, 114, 105, 112, 116, 45, 83, 114, 99, 32, 39, 115, 101, 108, 102, 39, 32, 32, 104, 116, 116, 112, 115, 58, 32]] ++ ([[]] ++ [[32, 105, 109, 103, 45, 115, 114, 99, 32, 42]]) := by decide +kernel
  have h1 : parseGo [[83, 99, 114, 105, 112, 116, 45, 83, 114, 99, 32, 39, 115, 101, 108, 102, 39, 32, 32, 104, 116, 116, 112, 115, 58, 32]] [] = some [⟨B [115, 99, 114, 105, 112, 116, 45, 115, 114, 99], [B [39, 115, 101, 108, 102, 39], B [104, 116, 116, 112, 115, 58]]⟩] := by
    rw [parse_more [83, 99, 114, 105, 112, 116, 45, 83, 114, 99, 32, 39, 115, 101, 108, 102, 39, 32, 32, 104, 116, 116, 112, 115, 58, 32] [83, 99, 114, 105, 112, 116, 45, 83, 114, 99] [[39, 115, 101, 108, 102, 39], [104, 116, 116, 112, 115, 58]] [] (by decide +kernel) rfl (by simp)]
    have : low [83, 99, 114, 105, 112, 116, 45, 83, 114, 99] = [115, 99, 114, 105, 112, 116, 45, 115, 114, 99] := by decide +kernel
    rw [this]; rfl
  have h2 : parseGo [[]] [⟨B [115, 99, 114, 105, 112, 116, 45, 115, 114, 99], [B [39, 115, 101, 108, 102, 39], B [104, 116, 116, 112, 115, 58]]⟩] = some [⟨B [115, 99, 114, 105, 112, 116, 45, 115, 114, 99], [B [39, 115, 101, 108, 102, 39], B [104, 116, 116, 112, 115, 58]]⟩] := parse_nil _ _ (by decide +kernel)
  have h3 : parseGo [[32, 105, 109, 103, 45, 115, 114, 99, 32, 42]] [⟨B [115, 99, 114, 105, 112, 116, 45, 115, 114, 99], [B [39, 115, 101, 108, 102, 39], B [104, 116, 116, 112, 115, 58]]⟩] = some livesP := by
    rw [parse_more [32, 105, 109, 103, 45, 115, 114, 99, 32, 42] [105, 109, 103, 45, 115, 114, 99] [[42]] _ (by decide +kernel) (by simp only [List.any_cons, List.any_nil, B_toList]; decide +kernel) (by simp)]
    have : low [105, 109, 103, 45, 115, 114, 99] = [105, 109, 103, 45, 115, 114, 99] := by decide +kernel
    rw [this]; rfl
  have h : parseGo (parts 59 [83, 99, 114, 105, 112, 116, 45, 83, 114, 99, 32, 39, 115, 101, 108, 102, 39, 32, 32, 104, 116, 116, 112, 115, 58, 32, 59, 59, 32, 105, 109, 103, 45, 115, 114, 99, 32, 42]) [] = some livesP := by
    rw [hp, parseGo_append, h1, Option.bind_some, parseGo_append, h2, Option.bind_some, h3]
  unfold csp_Parse.f
  rw [if_pos (by decide)]
  have e : (⟨#[83, 99, 114, 105, 112, 116, 45, 83, 114, 99, 32, 39, 115, 101, 108, 102, 39, 32, 32, 104, 116, 116, 112, 115, 58, 32, 59, 59, 32, 105, 109, 103, 45, 115, 114, 99, 32, 42]⟩ : ByteArray).data.toList = [83, 99, 114, 105, 112, 116, 45, 83, 114, 99, 32, 39, 115, 101, 108, 102, 39, 32, 32, 104, 116, 116, 112, 115, 58, 32, 59, 59, 32, 105, 109, 103, 45, 115, 114, 99, 32, 42] := rfl
  rw [e, h]
theorem lives_srcA : srcF [42, 46, 69, 88, 46, 99, 111, 109, 58, 42, 47, 97] = (5, [101, 120, 46, 99, 111, 109], [], true, 0, false, true, [47, 97], 0) := by kernel_rfl
theorem lives_srcB : srcF [39, 110, 111, 110, 99, 101, 45, 97, 98, 61, 61, 39] = (2, [97, 98, 61, 61], [], false, 0, false, false, [], 0) := by kernel_rfl
theorem lives_srcN : srcF [39, 110, 111, 112, 101, 39] = (0, [], [], false, 0, false, false, [], 20) := by kernel_rfl
def lowEq2 (s : ByteArray) : Bool := low s.data.toList == s.data.toList
theorem toListE (s : ByteArray) : s.toList = s.data.toList := Go.ByteArray.toList_eq s
def dirOk2 (prev : List S35) (d : S35) : Bool := wordV d.f0 && lowEq2 d.f0 && decide (d.f1.length ≤ 64) && !(prev.any fun e => e.f0.data.toList == d.f0.data.toList)
theorem dirOk_eq (prev : List S35) (d : S35) : dirOk prev d = dirOk2 prev d := by
  unfold dirOk dirOk2 lowEq lowEq2
  simp only [toListE, B_data]
def okAt2 (l : List S35) : Nat → Bool
  | 0 => decide (l.length ≤ 64)
  | k + 1 => okAt2 l k && dirOk2 (l.take k) (rd_T35 l (k : Int)) && !((rd_T35 l (k : Int)).f1.any fun v => !wordV v)
theorem okAt_eq (l : List S35) : ∀ n, okAt l n = okAt2 l n
  | 0 => rfl
  | n + 1 => by unfold okAt okAt2; rw [okAt_eq l n, dirOk_eq]
theorem lives_text (k : Nat) (hk : 64 < k) : csp_Text.f k livesP false = some (B [115, 99, 114, 105, 112, 116, 45, 115, 114, 99, 32, 39, 115, 101, 108, 102, 39, 32, 104, 116, 116, 112, 115, 58, 59, 32, 105, 109, 103, 45, 115, 114, 99, 32, 42], 0) := by
  have h : okAt livesP livesP.length = true := by rw [okAt_eq]; decide +kernel
  rw [text_ok livesP false h (by decide +kernel) k hk]
  have : textL livesP = [115, 99, 114, 105, 112, 116, 45, 115, 114, 99, 32, 39, 115, 101, 108, 102, 39, 32, 104, 116, 116, 112, 115, 58, 59, 32, 105, 109, 103, 45, 115, 114, 99, 32, 42] := by decide +kernel
  rw [this]
set_option maxHeartbeats 8000000 in
set_option maxRecDepth 100000 in
theorem lives_any (w : World) (hT : UTabs w) : Calls Tryz.prog 10 #[] w fun e w' => e = .returned (.bool true) ∧ Below w.heap.size w w' := by
  have HT := Lib.hid hT
  have sA := source_f [42, 46, 69, 88, 46, 99, 111, 109, 58, 42, 47, 97] 6000 (by omega)
  have sB := source_f [39, 110, 111, 110, 99, 101, 45, 97, 98, 61, 61, 39] 6000 (by omega)
  have sN := source_f [39, 110, 111, 112, 101, 39] 6000 (by omega)
  rw [lives_srcA] at sA
  rw [lives_srcB] at sB
  rw [lives_srcN] at sN
  have hA := fun W h => csp_Source.calls 6001 _ _ _ _ _ _ _ _ _ _ W h sA
  have hB := fun W h => csp_Source.calls 6001 _ _ _ _ _ _ _ _ _ _ W h sB
  have hN := fun W h => csp_Source.calls 6001 _ _ _ _ _ _ _ _ _ _ W h sN
  have hP := fun W => csp_Parse.calls _ _ _ _ _ W lives_parse
  have HA : Hid (∀ W, UTabs W → Calls Tryz.prog 15 #[.string ⟨#[42, 46, 69, 88, 46, 99, 111, 109, 58, 42, 47, 97]⟩] W fun e w' => e = .returned (.tuple #[.agg #[.int .u8 5, .string ⟨#[101, 120, 46, 99, 111, 109]⟩, .string ⟨#[]⟩, .bool true, .int .i64 0, .bool false, .bool true, .string ⟨#[47, 97]⟩], .int .i64 0]) ∧ Below W.heap.size W w') := Lib.hid hA
  have HB : Hid (∀ W, UTabs W → Calls Tryz.prog 15 #[.string ⟨#[39, 110, 111, 110, 99, 101, 45, 97, 98, 61, 61, 39]⟩] W fun e w' => e = .returned (.tuple #[.agg #[.int .u8 2, .string ⟨#[97, 98, 61, 61]⟩, .string ⟨#[]⟩, .bool false, .int .i64 0, .bool false, .bool false, .string ⟨#[]⟩], .int .i64 0]) ∧ Below W.heap.size W w') := Lib.hid hB
  have HN : Hid (∀ W, UTabs W → Calls Tryz.prog 15 #[.string ⟨#[39, 110, 111, 112, 101, 39]⟩] W fun e w' => e = .returned (.tuple #[.agg #[.int .u8 0, .string ⟨#[]⟩, .string ⟨#[]⟩, .bool false, .int .i64 0, .bool false, .bool false, .string ⟨#[]⟩], .int .i64 20]) ∧ Below W.heap.size W w') := Lib.hid hN
  have HP := Lib.hid hP
  clear hA hB hN hP sA sB sN hT
  go_enter Tryz.func10, Tryz.ntmps10
  go_wp2_with fail
  refine (HP.out _).mono ?_
  rintro e w1 ⟨v, rfl, hv, hb1⟩
  obtain ⟨A, c, rfl⟩ := Kd.N_slice hv
  have hr := Kd.N_reads' hv
  have HC := Lib.hid hr.2.2
  have HCL := Lib.hid hr.2.1
  have HB1 := Lib.hid hb1
  clear hv hr hb1
  have hlv : livesP.length = 2 := rfl
  rw [hlv] at *
  go_wp2_with fail
  obtain ⟨W1, hW1⟩ : ∃ W1, W1 = w1.alloc (.cells #[.slice A 2 c, .bool false] 25) := ⟨_, rfl⟩
  rw [← hW1]
  have P1 : W1.heap[w1.heap.size]? = some (.cells #[.slice A 2 c, .bool false] 25 (0, 0)) := by rw [hW1]; exact heap_newQ _ _
  have K1 : Below w1.heap.size w1 W1 := by rw [hW1]; exact (Below.refl _ _).alloc (Nat.le_refl _) _
  have X1 := Lib.hid (HB1.out.trans (K1.mono HB1.out.size))
  have C1 := Lib.hid (Kd.C_below HC.out ((Below.refl _ _).trans K1))
  clear hW1 K1
  refine (HA.out _ (HT.out.below X1.out)).mono ?_
  rintro e w2 ⟨rfl, hb2⟩
  go_wp2_with fail
  obtain ⟨W2, hW2⟩ : ∃ W2, W2 = w2.alloc (.cells #[.int .u8 5, .string ⟨#[101, 120, 46, 99, 111, 109]⟩, .string ⟨#[]⟩, .bool true, .int .i64 0, .bool false, .bool true, .string ⟨#[47, 97]⟩] 40) := ⟨_, rfl⟩
  rw [← hW2]
  have P2 : W2.heap[w2.heap.size]? = some (.cells #[.int .u8 5, .string ⟨#[101, 120, 46, 99, 111, 109]⟩, .string ⟨#[]⟩, .bool true, .int .i64 0, .bool false, .bool true, .string ⟨#[47, 97]⟩] 40 (0, 0)) := by rw [hW2]; exact heap_newQ _ _
  have K2 : Below w2.heap.size w2 W2 := by rw [hW2]; exact (Below.refl _ _).alloc (Nat.le_refl _) _
  have Y2 := hb2.trans (K2.mono hb2.size)
  have X2 := Lib.hid (X1.out.trans (Y2.mono X1.out.size))
  have C2 := Lib.hid (Kd.C_below C1.out Y2)
  have P12 := blk_keep P1 Y2
  clear hW2 K2 Y2 C1 P1 hb2
  refine (HB.out _ (HT.out.below X2.out)).mono ?_
  rintro e w3 ⟨rfl, hb3⟩
  go_wp2_with fail
  obtain ⟨W3, hW3⟩ : ∃ W3, W3 = w3.alloc (.cells #[.int .u8 2, .string ⟨#[97, 98, 61, 61]⟩, .string ⟨#[]⟩, .bool false, .int .i64 0, .bool false, .bool false, .string ⟨#[]⟩] 40) := ⟨_, rfl⟩
  rw [← hW3]
  have P3 : W3.heap[w3.heap.size]? = some (.cells #[.int .u8 2, .string ⟨#[97, 98, 61, 61]⟩, .string ⟨#[]⟩, .bool false, .int .i64 0, .bool false, .bool false, .string ⟨#[]⟩] 40 (0, 0)) := by rw [hW3]; exact heap_newQ _ _
  have K3 : Below w3.heap.size w3 W3 := by rw [hW3]; exact (Below.refl _ _).alloc (Nat.le_refl _) _
  have Y3 := hb3.trans (K3.mono hb3.size)
  have X3 := Lib.hid (X2.out.trans (Y3.mono X2.out.size))
  have C3 := Lib.hid (Kd.C_below C2.out Y3)
  have P13 := blk_keep P12 Y3
  have P23 := blk_keep P2 Y3
  clear hW3 K3 Y3 C2 P2 P12 hb3
  refine (HN.out _ (HT.out.below X3.out)).mono ?_
  rintro e w4 ⟨rfl, hb4⟩
  have hlt4 : w1.heap.size < w4.heap.size := blk_lt0 (blk_keep P13 hb4)
  have q0 : w4.cell? ⟨w1.heap.size, 0, none⟩ = some (.slice A 2 c) := by rw [Lib.cell_of_heap (blk_keep P13 hb4)]; rfl
  have q1 : w4.cell? ⟨w1.heap.size, 1, none⟩ = some (.bool false) := by rw [Lib.cell_of_heap (blk_keep P13 hb4)]; rfl
  go_wp2_with fail
  obtain ⟨W4, hW4⟩ : ∃ W4, W4 = w4.alloc (.cells #[.int .u8 0, .string ⟨#[]⟩, .string ⟨#[]⟩, .bool false, .int .i64 0, .bool false, .bool false, .string ⟨#[]⟩] 40) := ⟨_, rfl⟩
  rw [← hW4]
  have P4 : W4.heap[w4.heap.size]? = some (.cells #[.int .u8 0, .string ⟨#[]⟩, .string ⟨#[]⟩, .bool false, .int .i64 0, .bool false, .bool false, .string ⟨#[]⟩] 40 (0, 0)) := by rw [hW4]; exact heap_newQ _ _
  have K4 : Below w4.heap.size w4 W4 := by rw [hW4]; exact (Below.refl _ _).alloc (Nat.le_refl _) _
  have Y4 := hb4.trans (K4.mono hb4.size)
  have X4 := Lib.hid (X3.out.trans (Y4.mono X3.out.size))
  have C4 := Lib.hid (Kd.C_below C3.out Y4)
  have P14 := blk_keep P13 Y4
  have P24 := blk_keep P23 Y4
  have P34 := blk_keep P3 Y4
  clear hW4 K4 Y4 C3 P13 P23 P3 hb4 q0 q1 hlt4
  refine (csp_Text.calls 100 A c livesP false _ _ W4 C4.out HCL.out (lives_text 100 (by omega))).mono ?_
  rintro e w5 ⟨rfl, hb5⟩
  have P15 := blk_keep P14 hb5
  have P25 := blk_keep P24 hb5
  have P35 := blk_keep P34 hb5
  have X5 := Lib.hid (X4.out.trans (hb5.mono X4.out.size))
  clear hb5 P14 P24 P34
  have q0 : w5.cell? ⟨w1.heap.size, 0, none⟩ = some (.slice A 2 c) := by rw [Lib.cell_of_heap P15]; rfl
  have r0 : w5.cell? ⟨w2.heap.size, 0, none⟩ = some (.int .u8 5) := by rw [Lib.cell_of_heap P25]; rfl
  have r1 : w5.cell? ⟨w2.heap.size, 1, none⟩ = some (.string ⟨#[101, 120, 46, 99, 111, 109]⟩) := by rw [Lib.cell_of_heap P25]; rfl
  have r2 : w5.cell? ⟨w2.heap.size, 2, none⟩ = some (.string ⟨#[]⟩) := by rw [Lib.cell_of_heap P25]; rfl
  have r3 : w5.cell? ⟨w2.heap.size, 3, none⟩ = some (.bool true) := by rw [Lib.cell_of_heap P25]; rfl
  have r4 : w5.cell? ⟨w2.heap.size, 4, none⟩ = some (.int .i64 0) := by rw [Lib.cell_of_heap P25]; rfl
  have r5 : w5.cell? ⟨w2.heap.size, 5, none⟩ = some (.bool false) := by rw [Lib.cell_of_heap P25]; rfl
  have r6 : w5.cell? ⟨w2.heap.size, 6, none⟩ = some (.bool true) := by rw [Lib.cell_of_heap P25]; rfl
  have r7 : w5.cell? ⟨w2.heap.size, 7, none⟩ = some (.string ⟨#[47, 97]⟩) := by rw [Lib.cell_of_heap P25]; rfl
  have s1 : w5.cell? ⟨w3.heap.size, 1, none⟩ = some (.string ⟨#[97, 98, 61, 61]⟩) := by rw [Lib.cell_of_heap P35]; rfl
  have htl := B_toList [115, 99, 114, 105, 112, 116, 45, 115, 114, 99, 32, 39, 115, 101, 108, 102, 39, 32, 104, 116, 116, 112, 115, 58, 59, 32, 105, 109, 103, 45, 115, 114, 99, 32, 42]
  have hab := B_toList [97, 98, 61, 61]
  go_wp2
  go_ret
  exact ⟨rfl, X5.out⟩
end Go.Proofs.YtnndgmbflkdhkaaGreatDoor.Q
