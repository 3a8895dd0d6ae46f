/- csp.Source: what it answers at every text. -/
import Derived.Test.YtnndgmbflkdhkaaGreatDoorSB9
import Derived.Laws.EntriesVeiled
import Derived.Test.YtnndgmbflkdhkaaGreatDoorSParse
import Derived.Test.YtnndgmbflkdhkaaGreatDoorSQcsp1
set_option linter.unusedSimpArgs false
set_option linter.unusedVariables false
namespace Go.Proofs.YtnndgmbflkdhkaaGreatDoor.Q
open Go.RowKit Go.Proofs.YtnndgmbflkdhkaaGreatDoorW.PrintWords Go.Proofs.YtnndgmbflkdhkaaGreatDoorW.PrintLast Go.Proofs.YtnndgmbflkdhkaaGreatDoorW.PrintMore Go.Proofs.YtnndgmbflkdhkaaGreatDoor.P1
/-- what a way of reading answers: the eight fields, and whether it is one -/
def srcV (x : Int × ByteArray × ByteArray × Bool × Int × Bool × Bool × ByteArray × Bool) : Array Value := #[.int .u8 x.1, .string x.2.1, .string x.2.2.1, .bool x.2.2.2.1, .int .i64 x.2.2.2.2.1, .bool x.2.2.2.2.2.1, .bool x.2.2.2.2.2.2.1, .string x.2.2.2.2.2.2.2.1]
def zeroSrc : Array Value := #[.int .u8 0, .string ⟨#[]⟩, .string ⟨#[]⟩, .bool false, .int .i64 0, .bool false, .bool false, .string ⟨#[]⟩]
set_option maxHeartbeats 8000000 in
set_option maxRecDepth 100000 in
theorem source_any (s : ByteArray) (hs : s.size ≤ 4096) (w : World) (x1 x2 x3 : Int × ByteArray × ByteArray × Bool × Int × Bool × Bool × ByteArray × Bool)
    (h1 : ∀ W, Below w.heap.size w W → Calls Tryz.prog 40 #[.string s] W fun e W' => e = .returned (.tuple #[.agg (srcV x1), .bool x1.2.2.2.2.2.2.2.2]) ∧ Below W.heap.size W W')
    (h2 : ∀ W, Below w.heap.size w W → Calls Tryz.prog 41 #[.string s] W fun e W' => e = .returned (.tuple #[.agg (srcV x2), .bool x2.2.2.2.2.2.2.2.2]) ∧ Below W.heap.size W W')
    (h3 : ∀ W, Below w.heap.size w W → Calls Tryz.prog 42 #[.string s] W fun e W' => e = .returned (.tuple #[.agg (srcV x3), .bool x3.2.2.2.2.2.2.2.2]) ∧ Below W.heap.size W W') :
    Calls Tryz.prog 15 #[.string s] w fun e w' => ((x1.2.2.2.2.2.2.2.2 = true ∧ e = .returned (.tuple #[.agg (srcV x1), .int .i64 0])) ∨ (x1.2.2.2.2.2.2.2.2 = false ∧ x2.2.2.2.2.2.2.2.2 = true ∧ e = .returned (.tuple #[.agg (srcV x2), .int .i64 0])) ∨
      (x1.2.2.2.2.2.2.2.2 = false ∧ x2.2.2.2.2.2.2.2.2 = false ∧ x3.2.2.2.2.2.2.2.2 = true ∧ e = .returned (.tuple #[.agg (srcV x3), .int .i64 0])) ∨
      (x1.2.2.2.2.2.2.2.2 = false ∧ x2.2.2.2.2.2.2.2.2 = false ∧ x3.2.2.2.2.2.2.2.2 = false ∧ e = .returned (.tuple #[.agg zeroSrc, .int .i64 20]))) ∧ Below w.heap.size w w' := by
  obtain ⟨a1, a2, a3, a4, a5, a6, a7, a8, ab⟩ := x1
  obtain ⟨b1, b2, b3, b4, b5, b6, b7, b8, bb⟩ := x2
  obtain ⟨d1, d2, d3, d4, d5, d6, d7, d8, db⟩ := x3
  unfold srcV at *
  unfold zeroSrc
  simp only at h1 h2 h3 ⊢
  have hlt0 : ¬ (s.size : Int) > 4096 := by omega
  have H1 := Lib.hid h1
  have H2 := Lib.hid h2
  have H3 := Lib.hid h3
  clear h1 h2 h3
  go_enter Tryz.func15, Tryz.ntmps15
  go_wp2_with fail
  go_loopg [17] 3 (fun gg s17 wr => ∃ k : Nat, k ≤ 3 ∧ 3 - k ≤ gg ∧ s17 = .int .i64 k ∧ Hid (Below w.heap.size w wr) ∧ Hid (wr.heap[w.heap.size]? = some (.cells #[.int .u8 0, .string ⟨#[]⟩, .string ⟨#[]⟩, .bool false, .int .i64 0, .bool false, .bool false, .string ⟨#[]⟩] 40 (0, 0))) ∧ Hid (wr.heap[w.heap.size + 1]? = some (.cells #[.func (.func 40) #[] #[], .func (.func 41) #[] #[], .func (.func 42) #[] #[]] 71 (0, 0))) ∧ Hid ((1 ≤ k → ab = false) ∧ (2 ≤ k → bb = false) ∧ (3 ≤ k → db = false)))
  case atStart =>
    refine ⟨0, by omega, by omega, rfl, ?_, ?_, ?_, Lib.hid ⟨fun h => by omega, fun h => by omega, fun h => by omega⟩⟩
    · exact Lib.hid (((Below.refl _ w).alloc (Nat.le_refl _) _).alloc (by simp) _)
    · exact Lib.hid ((Below.heap_alloc _ _ _ (by simp)).trans (World.alloc_heap_new w _))
    · have := World.alloc_heap_new (w.alloc (.cells #[.int .u8 0, .string ⟨#[]⟩, .string ⟨#[]⟩, .bool false, .int .i64 0, .bool false, .bool false, .string ⟨#[]⟩] 40)) (.cells #[.func (.func 40) #[] #[], .func (.func 41) #[] #[], .func (.func 42) #[] #[]] 71)
      rw [World.size_alloc] at this
      exact Lib.hid this
  case round =>
    obtain ⟨k, hk3, hg, rfl, BW, HR, HF, HK⟩ := hrel
    obtain ⟨hk1, hk2, hk4⟩ := HK.out
    have HKs := HK
    clear HK
    have p0 : wr.cell? ⟨w.heap.size + 1, 0, none⟩ = some (.func (.func 40) #[] #[]) := by rw [Lib.cell_of_heap HF.out]; rfl
    have p1 : wr.cell? ⟨w.heap.size + 1, 1, none⟩ = some (.func (.func 41) #[] #[]) := by rw [Lib.cell_of_heap HF.out]; rfl
    have p2 : wr.cell? ⟨w.heap.size + 1, 2, none⟩ = some (.func (.func 42) #[] #[]) := by rw [Lib.cell_of_heap HF.out]; rfl
    rcases (by omega : k = 0 ∨ k = 1 ∨ k = 2 ∨ k = 3) with hk | hk | hk | hk
    · obtain rfl : k = 0 := hk
      go_wp2_with fail
      refine (H1.out _ ?_).mono ?_
      · exact BW.out.alloc BW.out.size _
      rintro e wr1 ⟨rfl, hb1⟩
      have HB1 := Lib.hid hb1
      have HR1 := blk_keep (blk_keep HR.out ((Below.refl _ wr).alloc (Nat.le_refl _) _)) hb1
      have HF1 := blk_keep (blk_keep HF.out ((Below.refl _ wr).alloc (Nat.le_refl _) _)) hb1
      have BW1 := Lib.hid ((BW.out.alloc BW.out.size (.cells #[.func (.func 40) #[] #[]] 71)).trans (hb1.mono (BW.out.alloc BW.out.size _).size))
      clear hb1
      cases hab : ab with
      | true =>
        have hwl : w.heap.size < wr1.heap.size := blk_lt0 HR1
        have c0 : wr1.cell? ⟨w.heap.size, 0, none⟩ = some (.int .u8 0) := by rw [Lib.cell_of_heap HR1]; rfl
        have f0 : wr1.frozen? ⟨w.heap.size, 0, none⟩ = false := by simp [World.frozen?, HR1]
        have c1 : wr1.cell? ⟨w.heap.size, 1, none⟩ = some (.string ⟨#[]⟩) := by rw [Lib.cell_of_heap HR1]; rfl
        have f1 : wr1.frozen? ⟨w.heap.size, 1, none⟩ = false := by simp [World.frozen?, HR1]
        have c2 : wr1.cell? ⟨w.heap.size, 2, none⟩ = some (.string ⟨#[]⟩) := by rw [Lib.cell_of_heap HR1]; rfl
        have f2 : wr1.frozen? ⟨w.heap.size, 2, none⟩ = false := by simp [World.frozen?, HR1]
        have c3 : wr1.cell? ⟨w.heap.size, 3, none⟩ = some (.bool false) := by rw [Lib.cell_of_heap HR1]; rfl
        have f3 : wr1.frozen? ⟨w.heap.size, 3, none⟩ = false := by simp [World.frozen?, HR1]
        have c4 : wr1.cell? ⟨w.heap.size, 4, none⟩ = some (.int .i64 0) := by rw [Lib.cell_of_heap HR1]; rfl
        have f4 : wr1.frozen? ⟨w.heap.size, 4, none⟩ = false := by simp [World.frozen?, HR1]
        have c5 : wr1.cell? ⟨w.heap.size, 5, none⟩ = some (.bool false) := by rw [Lib.cell_of_heap HR1]; rfl
        have f5 : wr1.frozen? ⟨w.heap.size, 5, none⟩ = false := by simp [World.frozen?, HR1]
        have c6 : wr1.cell? ⟨w.heap.size, 6, none⟩ = some (.bool false) := by rw [Lib.cell_of_heap HR1]; rfl
        have f6 : wr1.frozen? ⟨w.heap.size, 6, none⟩ = false := by simp [World.frozen?, HR1]
        have c7 : wr1.cell? ⟨w.heap.size, 7, none⟩ = some (.string ⟨#[]⟩) := by rw [Lib.cell_of_heap HR1]; rfl
        have f7 : wr1.frozen? ⟨w.heap.size, 7, none⟩ = false := by simp [World.frozen?, HR1]
        have HC := chain8 HR1 (.int .u8 a1) (.string a2) (.string a3) (.bool a4) (.int .i64 a5) (.bool a6) (.bool a7) (.string a8)
        have HCB := chain8_below (Nat.le_refl _) BW1.out (.int .u8 a1) (.string a2) (.string a3) (.bool a4) (.int .i64 a5) (.bool a6) (.bool a7) (.string a8)
        have hszc : ((((((((wr1.setCell ⟨w.heap.size, 0, none⟩ (.int .u8 a1)).setCell ⟨w.heap.size, 1, none⟩ (.string a2)).setCell ⟨w.heap.size, 2, none⟩ (.string a3)).setCell ⟨w.heap.size, 3, none⟩ (.bool a4)).setCell ⟨w.heap.size, 4, none⟩ (.int .i64 a5)).setCell ⟨w.heap.size, 5, none⟩ (.bool a6)).setCell ⟨w.heap.size, 6, none⟩ (.bool a7)).setCell ⟨w.heap.size, 7, none⟩ (.string a8)).heap.size = wr1.heap.size := by simp
        go_wp2
        (try simp only [Exit.inBlock, Exit.then])
        generalize ((((((((wr1.setCell ⟨w.heap.size, 0, none⟩ (.int .u8 a1)).setCell ⟨w.heap.size, 1, none⟩ (.string a2)).setCell ⟨w.heap.size, 2, none⟩ (.string a3)).setCell ⟨w.heap.size, 3, none⟩ (.bool a4)).setCell ⟨w.heap.size, 4, none⟩ (.int .i64 a5)).setCell ⟨w.heap.size, 5, none⟩ (.bool a6)).setCell ⟨w.heap.size, 6, none⟩ (.bool a7)).setCell ⟨w.heap.size, 7, none⟩ (.string a8)) = wr2 at HC HCB hszc ⊢
        refine bodyPost_ret (results_ct rfl _ _ w.heap.size 40 _ (0, 0) _ rfl ((Below.heap_alloc _ (.cells #[.int .u8 a1, .string a2, .string a3, .bool a4, .int .i64 a5, .bool a6, .bool a7, .string a8] 40) _ (by omega)).trans HC) Tryz.underlying40 rfl (by kernel_rfl)) rfl ?_
        exact ⟨.inl ⟨hab, rfl⟩, HCB.alloc HCB.size _⟩
      | false =>
        have BW2 := Lib.hid (BW1.out.alloc BW1.out.size (.cells #[.int .u8 a1, .string a2, .string a3, .bool a4, .int .i64 a5, .bool a6, .bool a7, .string a8] 40))
        have HR2 := Lib.hid ((Below.heap_alloc _ (.cells #[.int .u8 a1, .string a2, .string a3, .bool a4, .int .i64 a5, .bool a6, .bool a7, .string a8] 40) _ (blk_lt0 HR1)).trans HR1)
        have HF2 := Lib.hid ((Below.heap_alloc _ (.cells #[.int .u8 a1, .string a2, .string a3, .bool a4, .int .i64 a5, .bool a6, .bool a7, .string a8] 40) _ (blk_lt0 HF1)).trans HF1)
        clear HR1 HF1
        go_wp2
        go_roundg (3 - (0 + 1))
        case measure => omega
        case rel => exact ⟨0 + 1, by omega, by omega, by go_num, BW2, HR2, HF2, Lib.hid ⟨fun _ => hab, fun h => by omega, fun h => by omega⟩⟩
    · obtain rfl : k = 1 := hk
      go_wp2_with fail
      refine (H2.out _ ?_).mono ?_
      · exact BW.out.alloc BW.out.size _
      rintro e wr1 ⟨rfl, hb1⟩
      have HB1 := Lib.hid hb1
      have HR1 := blk_keep (blk_keep HR.out ((Below.refl _ wr).alloc (Nat.le_refl _) _)) hb1
      have HF1 := blk_keep (blk_keep HF.out ((Below.refl _ wr).alloc (Nat.le_refl _) _)) hb1
      have BW1 := Lib.hid ((BW.out.alloc BW.out.size (.cells #[.func (.func 41) #[] #[]] 71)).trans (hb1.mono (BW.out.alloc BW.out.size _).size))
      clear hb1
      cases hab : bb with
      | true =>
        have hwl : w.heap.size < wr1.heap.size := blk_lt0 HR1
        have c0 : wr1.cell? ⟨w.heap.size, 0, none⟩ = some (.int .u8 0) := by rw [Lib.cell_of_heap HR1]; rfl
        have f0 : wr1.frozen? ⟨w.heap.size, 0, none⟩ = false := by simp [World.frozen?, HR1]
        have c1 : wr1.cell? ⟨w.heap.size, 1, none⟩ = some (.string ⟨#[]⟩) := by rw [Lib.cell_of_heap HR1]; rfl
        have f1 : wr1.frozen? ⟨w.heap.size, 1, none⟩ = false := by simp [World.frozen?, HR1]
        have c2 : wr1.cell? ⟨w.heap.size, 2, none⟩ = some (.string ⟨#[]⟩) := by rw [Lib.cell_of_heap HR1]; rfl
        have f2 : wr1.frozen? ⟨w.heap.size, 2, none⟩ = false := by simp [World.frozen?, HR1]
        have c3 : wr1.cell? ⟨w.heap.size, 3, none⟩ = some (.bool false) := by rw [Lib.cell_of_heap HR1]; rfl
        have f3 : wr1.frozen? ⟨w.heap.size, 3, none⟩ = false := by simp [World.frozen?, HR1]
        have c4 : wr1.cell? ⟨w.heap.size, 4, none⟩ = some (.int .i64 0) := by rw [Lib.cell_of_heap HR1]; rfl
        have f4 : wr1.frozen? ⟨w.heap.size, 4, none⟩ = false := by simp [World.frozen?, HR1]
        have c5 : wr1.cell? ⟨w.heap.size, 5, none⟩ = some (.bool false) := by rw [Lib.cell_of_heap HR1]; rfl
        have f5 : wr1.frozen? ⟨w.heap.size, 5, none⟩ = false := by simp [World.frozen?, HR1]
        have c6 : wr1.cell? ⟨w.heap.size, 6, none⟩ = some (.bool false) := by rw [Lib.cell_of_heap HR1]; rfl
        have f6 : wr1.frozen? ⟨w.heap.size, 6, none⟩ = false := by simp [World.frozen?, HR1]
        have c7 : wr1.cell? ⟨w.heap.size, 7, none⟩ = some (.string ⟨#[]⟩) := by rw [Lib.cell_of_heap HR1]; rfl
        have f7 : wr1.frozen? ⟨w.heap.size, 7, none⟩ = false := by simp [World.frozen?, HR1]
        have HC := chain8 HR1 (.int .u8 b1) (.string b2) (.string b3) (.bool b4) (.int .i64 b5) (.bool b6) (.bool b7) (.string b8)
        have HCB := chain8_below (Nat.le_refl _) BW1.out (.int .u8 b1) (.string b2) (.string b3) (.bool b4) (.int .i64 b5) (.bool b6) (.bool b7) (.string b8)
        have hszc : ((((((((wr1.setCell ⟨w.heap.size, 0, none⟩ (.int .u8 b1)).setCell ⟨w.heap.size, 1, none⟩ (.string b2)).setCell ⟨w.heap.size, 2, none⟩ (.string b3)).setCell ⟨w.heap.size, 3, none⟩ (.bool b4)).setCell ⟨w.heap.size, 4, none⟩ (.int .i64 b5)).setCell ⟨w.heap.size, 5, none⟩ (.bool b6)).setCell ⟨w.heap.size, 6, none⟩ (.bool b7)).setCell ⟨w.heap.size, 7, none⟩ (.string b8)).heap.size = wr1.heap.size := by simp
        go_wp2
        (try simp only [Exit.inBlock, Exit.then])
        generalize ((((((((wr1.setCell ⟨w.heap.size, 0, none⟩ (.int .u8 b1)).setCell ⟨w.heap.size, 1, none⟩ (.string b2)).setCell ⟨w.heap.size, 2, none⟩ (.string b3)).setCell ⟨w.heap.size, 3, none⟩ (.bool b4)).setCell ⟨w.heap.size, 4, none⟩ (.int .i64 b5)).setCell ⟨w.heap.size, 5, none⟩ (.bool b6)).setCell ⟨w.heap.size, 6, none⟩ (.bool b7)).setCell ⟨w.heap.size, 7, none⟩ (.string b8)) = wr2 at HC HCB hszc ⊢
        refine bodyPost_ret (results_ct rfl _ _ w.heap.size 40 _ (0, 0) _ rfl ((Below.heap_alloc _ (.cells #[.int .u8 b1, .string b2, .string b3, .bool b4, .int .i64 b5, .bool b6, .bool b7, .string b8] 40) _ (by omega)).trans HC) Tryz.underlying40 rfl (by kernel_rfl)) rfl ?_
        exact ⟨.inr (.inl ⟨hk1 (by omega), hab, rfl⟩), HCB.alloc HCB.size _⟩
      | false =>
        have BW2 := Lib.hid (BW1.out.alloc BW1.out.size (.cells #[.int .u8 b1, .string b2, .string b3, .bool b4, .int .i64 b5, .bool b6, .bool b7, .string b8] 40))
        have HR2 := Lib.hid ((Below.heap_alloc _ (.cells #[.int .u8 b1, .string b2, .string b3, .bool b4, .int .i64 b5, .bool b6, .bool b7, .string b8] 40) _ (blk_lt0 HR1)).trans HR1)
        have HF2 := Lib.hid ((Below.heap_alloc _ (.cells #[.int .u8 b1, .string b2, .string b3, .bool b4, .int .i64 b5, .bool b6, .bool b7, .string b8] 40) _ (blk_lt0 HF1)).trans HF1)
        clear HR1 HF1
        go_wp2
        go_roundg (3 - (1 + 1))
        case measure => omega
        case rel => exact ⟨1 + 1, by omega, by omega, by go_num, BW2, HR2, HF2, Lib.hid ⟨fun _ => hk1 (by omega), fun _ => hab, fun h => by omega⟩⟩
    · obtain rfl : k = 2 := hk
      go_wp2_with fail
      refine (H3.out _ ?_).mono ?_
      · exact BW.out.alloc BW.out.size _
      rintro e wr1 ⟨rfl, hb1⟩
      have HB1 := Lib.hid hb1
      have HR1 := blk_keep (blk_keep HR.out ((Below.refl _ wr).alloc (Nat.le_refl _) _)) hb1
      have HF1 := blk_keep (blk_keep HF.out ((Below.refl _ wr).alloc (Nat.le_refl _) _)) hb1
      have BW1 := Lib.hid ((BW.out.alloc BW.out.size (.cells #[.func (.func 42) #[] #[]] 71)).trans (hb1.mono (BW.out.alloc BW.out.size _).size))
      clear hb1
      cases hab : db with
      | true =>
        have hwl : w.heap.size < wr1.heap.size := blk_lt0 HR1
        have c0 : wr1.cell? ⟨w.heap.size, 0, none⟩ = some (.int .u8 0) := by rw [Lib.cell_of_heap HR1]; rfl
        have f0 : wr1.frozen? ⟨w.heap.size, 0, none⟩ = false := by simp [World.frozen?, HR1]
        have c1 : wr1.cell? ⟨w.heap.size, 1, none⟩ = some (.string ⟨#[]⟩) := by rw [Lib.cell_of_heap HR1]; rfl
        have f1 : wr1.frozen? ⟨w.heap.size, 1, none⟩ = false := by simp [World.frozen?, HR1]
        have c2 : wr1.cell? ⟨w.heap.size, 2, none⟩ = some (.string ⟨#[]⟩) := by rw [Lib.cell_of_heap HR1]; rfl
        have f2 : wr1.frozen? ⟨w.heap.size, 2, none⟩ = false := by simp [World.frozen?, HR1]
        have c3 : wr1.cell? ⟨w.heap.size, 3, none⟩ = some (.bool false) := by rw [Lib.cell_of_heap HR1]; rfl
        have f3 : wr1.frozen? ⟨w.heap.size, 3, none⟩ = false := by simp [World.frozen?, HR1]
        have c4 : wr1.cell? ⟨w.heap.size, 4, none⟩ = some (.int .i64 0) := by rw [Lib.cell_of_heap HR1]; rfl
        have f4 : wr1.frozen? ⟨w.heap.size, 4, none⟩ = false := by simp [World.frozen?, HR1]
        have c5 : wr1.cell? ⟨w.heap.size, 5, none⟩ = some (.bool false) := by rw [Lib.cell_of_heap HR1]; rfl
        have f5 : wr1.frozen? ⟨w.heap.size, 5, none⟩ = false := by simp [World.frozen?, HR1]
        have c6 : wr1.cell? ⟨w.heap.size, 6, none⟩ = some (.bool false) := by rw [Lib.cell_of_heap HR1]; rfl
        have f6 : wr1.frozen? ⟨w.heap.size, 6, none⟩ = false := by simp [World.frozen?, HR1]
        have c7 : wr1.cell? ⟨w.heap.size, 7, none⟩ = some (.string ⟨#[]⟩) := by rw [Lib.cell_of_heap HR1]; rfl
        have f7 : wr1.frozen? ⟨w.heap.size, 7, none⟩ = false := by simp [World.frozen?, HR1]
        have HC := chain8 HR1 (.int .u8 d1) (.string d2) (.string d3) (.bool d4) (.int .i64 d5) (.bool d6) (.bool d7) (.string d8)
        have HCB := chain8_below (Nat.le_refl _) BW1.out (.int .u8 d1) (.string d2) (.string d3) (.bool d4) (.int .i64 d5) (.bool d6) (.bool d7) (.string d8)
        have hszc : ((((((((wr1.setCell ⟨w.heap.size, 0, none⟩ (.int .u8 d1)).setCell ⟨w.heap.size, 1, none⟩ (.string d2)).setCell ⟨w.heap.size, 2, none⟩ (.string d3)).setCell ⟨w.heap.size, 3, none⟩ (.bool d4)).setCell ⟨w.heap.size, 4, none⟩ (.int .i64 d5)).setCell ⟨w.heap.size, 5, none⟩ (.bool d6)).setCell ⟨w.heap.size, 6, none⟩ (.bool d7)).setCell ⟨w.heap.size, 7, none⟩ (.string d8)).heap.size = wr1.heap.size := by simp
        go_wp2
        (try simp only [Exit.inBlock, Exit.then])
        generalize ((((((((wr1.setCell ⟨w.heap.size, 0, none⟩ (.int .u8 d1)).setCell ⟨w.heap.size, 1, none⟩ (.string d2)).setCell ⟨w.heap.size, 2, none⟩ (.string d3)).setCell ⟨w.heap.size, 3, none⟩ (.bool d4)).setCell ⟨w.heap.size, 4, none⟩ (.int .i64 d5)).setCell ⟨w.heap.size, 5, none⟩ (.bool d6)).setCell ⟨w.heap.size, 6, none⟩ (.bool d7)).setCell ⟨w.heap.size, 7, none⟩ (.string d8)) = wr2 at HC HCB hszc ⊢
        refine bodyPost_ret (results_ct rfl _ _ w.heap.size 40 _ (0, 0) _ rfl ((Below.heap_alloc _ (.cells #[.int .u8 d1, .string d2, .string d3, .bool d4, .int .i64 d5, .bool d6, .bool d7, .string d8] 40) _ (by omega)).trans HC) Tryz.underlying40 rfl (by kernel_rfl)) rfl ?_
        exact ⟨.inr (.inr (.inl ⟨hk1 (by omega), hk2 (by omega), hab, rfl⟩)), HCB.alloc HCB.size _⟩
      | false =>
        have BW2 := Lib.hid (BW1.out.alloc BW1.out.size (.cells #[.int .u8 d1, .string d2, .string d3, .bool d4, .int .i64 d5, .bool d6, .bool d7, .string d8] 40))
        have HR2 := Lib.hid ((Below.heap_alloc _ (.cells #[.int .u8 d1, .string d2, .string d3, .bool d4, .int .i64 d5, .bool d6, .bool d7, .string d8] 40) _ (blk_lt0 HR1)).trans HR1)
        have HF2 := Lib.hid ((Below.heap_alloc _ (.cells #[.int .u8 d1, .string d2, .string d3, .bool d4, .int .i64 d5, .bool d6, .bool d7, .string d8] 40) _ (blk_lt0 HF1)).trans HF1)
        clear HR1 HF1
        go_wp2
        go_roundg (3 - (2 + 1))
        case measure => omega
        case rel => exact ⟨2 + 1, by omega, by omega, by go_num, BW2, HR2, HF2, Lib.hid ⟨fun _ => hk1 (by omega), fun _ => hk2 (by omega), fun _ => hab⟩⟩
    · obtain rfl : k = 3 := hk
      have c0 : wr.cell? ⟨w.heap.size, 0, none⟩ = some (.int .u8 0) := by rw [Lib.cell_of_heap HR.out]; rfl
      have f0 : wr.frozen? ⟨w.heap.size, 0, none⟩ = false := by simp [World.frozen?, show wr.heap[w.heap.size]? = _ from HR.out]
      have c1 : wr.cell? ⟨w.heap.size, 1, none⟩ = some (.string ⟨#[]⟩) := by rw [Lib.cell_of_heap HR.out]; rfl
      have f1 : wr.frozen? ⟨w.heap.size, 1, none⟩ = false := by simp [World.frozen?, show wr.heap[w.heap.size]? = _ from HR.out]
      have c2 : wr.cell? ⟨w.heap.size, 2, none⟩ = some (.string ⟨#[]⟩) := by rw [Lib.cell_of_heap HR.out]; rfl
      have f2 : wr.frozen? ⟨w.heap.size, 2, none⟩ = false := by simp [World.frozen?, show wr.heap[w.heap.size]? = _ from HR.out]
      have c3 : wr.cell? ⟨w.heap.size, 3, none⟩ = some (.bool false) := by rw [Lib.cell_of_heap HR.out]; rfl
      have f3 : wr.frozen? ⟨w.heap.size, 3, none⟩ = false := by simp [World.frozen?, show wr.heap[w.heap.size]? = _ from HR.out]
      have c4 : wr.cell? ⟨w.heap.size, 4, none⟩ = some (.int .i64 0) := by rw [Lib.cell_of_heap HR.out]; rfl
      have f4 : wr.frozen? ⟨w.heap.size, 4, none⟩ = false := by simp [World.frozen?, show wr.heap[w.heap.size]? = _ from HR.out]
      have c5 : wr.cell? ⟨w.heap.size, 5, none⟩ = some (.bool false) := by rw [Lib.cell_of_heap HR.out]; rfl
      have f5 : wr.frozen? ⟨w.heap.size, 5, none⟩ = false := by simp [World.frozen?, show wr.heap[w.heap.size]? = _ from HR.out]
      have c6 : wr.cell? ⟨w.heap.size, 6, none⟩ = some (.bool false) := by rw [Lib.cell_of_heap HR.out]; rfl
      have f6 : wr.frozen? ⟨w.heap.size, 6, none⟩ = false := by simp [World.frozen?, show wr.heap[w.heap.size]? = _ from HR.out]
      have c7 : wr.cell? ⟨w.heap.size, 7, none⟩ = some (.string ⟨#[]⟩) := by rw [Lib.cell_of_heap HR.out]; rfl
      have f7 : wr.frozen? ⟨w.heap.size, 7, none⟩ = false := by simp [World.frozen?, show wr.heap[w.heap.size]? = _ from HR.out]
      have HC := chain8 HR.out (.int .u8 0) (.string ⟨#[]⟩) (.string ⟨#[]⟩) (.bool false) (.int .i64 0) (.bool false) (.bool false) (.string ⟨#[]⟩)
      have HCB := chain8_below (Nat.le_refl _) BW.out (.int .u8 0) (.string ⟨#[]⟩) (.string ⟨#[]⟩) (.bool false) (.int .i64 0) (.bool false) (.bool false) (.string ⟨#[]⟩)
      go_wp2
      (try simp only [Exit.inBlock, Exit.then])
      generalize ((((((((wr.setCell ⟨w.heap.size, 0, none⟩ (.int .u8 0)).setCell ⟨w.heap.size, 1, none⟩ (.string ⟨#[]⟩)).setCell ⟨w.heap.size, 2, none⟩ (.string ⟨#[]⟩)).setCell ⟨w.heap.size, 3, none⟩ (.bool false)).setCell ⟨w.heap.size, 4, none⟩ (.int .i64 0)).setCell ⟨w.heap.size, 5, none⟩ (.bool false)).setCell ⟨w.heap.size, 6, none⟩ (.bool false)).setCell ⟨w.heap.size, 7, none⟩ (.string ⟨#[]⟩)) = wr2 at HC HCB ⊢
      refine bodyPost_ret (results_ct rfl _ _ w.heap.size 40 _ (0, 0) _ rfl HC Tryz.underlying40 rfl (by kernel_rfl)) rfl ?_
      exact ⟨.inr (.inr (.inr ⟨hk1 (by omega), hk2 (by omega), hk4 (by omega), rfl⟩)), HCB⟩
theorem source_long (s : ByteArray) (hs : ¬ s.size ≤ 4096) (w : World) :
    Calls Tryz.prog 15 #[.string s] w fun e w' => e = .returned (.tuple #[.agg zeroSrc, .int .i64 4]) ∧ Below w.heap.size w w' := by
  have hlt0 : (s.size : Int) > 4096 := by omega
  unfold zeroSrc
  go_enter Tryz.func15, Tryz.ntmps15
  go_wp2_with fail
  (try simp only [Exit.inBlock, Exit.then])
  refine bodyPost_ret (results_ct rfl _ _ w.heap.size 40 _ (0, 0) _ rfl (World.alloc_heap_new w _) Tryz.underlying40 rfl (by kernel_rfl)) rfl ?_
  exact ⟨rfl, (Below.refl _ w).alloc (Nat.le_refl _) _⟩
def csp_Source.f (k : Nat) (a0 : ByteArray) : Option (Int × ByteArray × ByteArray × Bool × Int × Bool × Bool × ByteArray × Int) :=
  if a0.size ≤ 4096 then (csp_quoted.f k a0).bind fun x => (csp_schemed.f k a0).bind fun y => (csp_hosted.f a0).bind fun z =>
    some (if x.2.2.2.2.2.2.2.2 then (x.1, x.2.1, x.2.2.1, x.2.2.2.1, x.2.2.2.2.1, x.2.2.2.2.2.1, x.2.2.2.2.2.2.1, x.2.2.2.2.2.2.2.1, 0)
      else if y.2.2.2.2.2.2.2.2 then (y.1, y.2.1, y.2.2.1, y.2.2.2.1, y.2.2.2.2.1, y.2.2.2.2.2.1, y.2.2.2.2.2.2.1, y.2.2.2.2.2.2.2.1, 0)
      else if z.2.2.2.2.2.2.2.2 then (z.1, z.2.1, z.2.2.1, z.2.2.2.1, z.2.2.2.2.1, z.2.2.2.2.2.1, z.2.2.2.2.2.2.1, z.2.2.2.2.2.2.2.1, 0)
      else (0, ⟨#[]⟩, ⟨#[]⟩, false, 0, false, false, ⟨#[]⟩, 20))
  else some (0, ⟨#[]⟩, ⟨#[]⟩, false, 0, false, false, ⟨#[]⟩, 4)
theorem csp_Source.calls (k : Nat) (a0 : ByteArray) (r1 : Int) (r2 : ByteArray) (r3 : ByteArray) (r4 : Bool) (r5 : Int) (r6 : Bool) (r7 : Bool) (r8 : ByteArray) (r9 : Int) (w : World) (hT : UTabs w) (h : csp_Source.f k a0 = some (r1, r2, r3, r4, r5, r6, r7, r8, r9)) :
    Calls Tryz.prog 15 #[.string a0] w fun e w' => e = .returned (.tuple #[.agg #[.int .u8 r1, .string r2, .string r3, .bool r4, .int .i64 r5, .bool r6, .bool r7, .string r8], .int .i64 r9]) ∧ Below w.heap.size w w' := by
  unfold csp_Source.f at h
  split at h
  · rename_i hs
    cases hx : csp_quoted.f k a0 with
    | none => rw [hx] at h; cases h
    | some x =>
      cases hy : csp_schemed.f k a0 with
      | none => rw [hx, hy] at h; cases h
      | some y =>
        cases hz : csp_hosted.f a0 with
        | none => rw [hx, hy, hz] at h; cases h
        | some z =>
          rw [hx, hy, hz] at h
          simp only [Option.bind_some, Option.some.injEq] at h
          refine (source_any a0 hs w x y z (fun W hW => csp_quoted.calls k a0 _ _ _ _ _ _ _ _ _ W (hT.below hW) hx) (fun W hW => csp_schemed.calls k a0 _ _ _ _ _ _ _ _ _ W hy) (fun W hW => csp_hosted.calls a0 _ _ _ _ _ _ _ _ _ W (hT.below hW) hz)).mono ?_
          rintro e w' ⟨h1, hb⟩
          refine ⟨?_, hb⟩
          rcases h1 with ⟨q1, rfl⟩ | ⟨q1, q2, rfl⟩ | ⟨q1, q2, q3, rfl⟩ | ⟨q1, q2, q3, rfl⟩
          · rw [if_pos q1] at h
            cases h
            rfl
          · rw [if_neg (by rw [q1]; simp), if_pos q2] at h
            cases h
            rfl
          · rw [if_neg (by rw [q1]; simp), if_neg (by rw [q2]; simp), if_pos q3] at h
            cases h
            rfl
          · rw [if_neg (by rw [q1]; simp), if_neg (by rw [q2]; simp), if_neg (by rw [q3]; simp)] at h
            cases h
            rfl
  · rename_i hs
    cases h
    exact source_long a0 hs w
end Go.Proofs.YtnndgmbflkdhkaaGreatDoor.Q
