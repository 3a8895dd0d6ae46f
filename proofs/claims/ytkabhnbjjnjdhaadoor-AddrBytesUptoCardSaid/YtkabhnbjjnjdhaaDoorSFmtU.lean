/- strconv.FormatUint at base 16, of numbers of sixteen bits. -/
import Derived.Test.YtkabhnbjjnjdhaaDoorSQbase
import Derived.Test.YtkabhnbjjnjdhaaDoorSStr
import Derived.Test.YtkabhnbjjnjdhaaDoorSAdZ
import Derived.WalkKit
import Derived.Deep.LoopGhost
import Derived.Lib.Hide
import Derived.Lib.SmallJoins
import Derived.Laws.IdiomStrings
import Derived.Laws.Strings3
import Derived.Laws.BitsLemmas
set_option linter.unusedSimpArgs false
set_option linter.unusedVariables false
namespace Go.Proofs.YtkabhnbjjnjdhaaDoor.Q
open Go.RowKit Go.Proofs.YtkabhnbjjnjdhaaDoorW.PrintWords Go.Proofs.YtkabhnbjjnjdhaaDoorW.PrintLast Go.Proofs.YtkabhnbjjnjdhaaDoorW.PrintMore Go.Proofs.YtkabhnbjjnjdhaaDoor.Ad
theorem pow2_calls (w : World) : Calls Tryd.prog 93 #[.int .i64 16] w fun e w' => e = .returned (.bool true) ∧ w' = w := by
  go_enter Tryd.func93, Tryd.ntmps93
  go_wp2
  go_ret
  exact ⟨rfl, rfl⟩
theorem tz64_calls (w : World) (hT : UTabs w) : Calls Tryd.prog 97 #[.int .u64 16] w fun e w' => e = .returned (.int .i64 4) ∧ w' = w := by
  have hc : w.cell? ⟨7, 15, none⟩ = some (.int .u8 4) := Lib.TabIs.cell (g := 7) hT.2.2.1 (by kernel_rfl) 15 (by decide)
  have hix : IntKind.u64.wrap (bits BinOp.and IntKind.u64 16 (IntKind.u64.wrap (-16)) * 285870213051353865) / 288230376151711744 = 15 := by decide +kernel
  go_enter Tryd.func97, Tryd.ntmps97
  go_wp2
  go_ret
  exact ⟨rfl, rfl⟩
theorem tz_calls (w : World) (hT : UTabs w) : Calls Tryd.prog 94 #[.int .u64 16] w fun e w' => e = .returned (.int .i64 4) ∧ w' = w := by
  have e97 : ∀ args w, (callFunc 97 args).run Tryd.prog w = .ok (.enter 97 args) w := enters_of Tryd.func97 (by kernel_rfl) rfl
  go_enter Tryd.func94, Tryd.ntmps94
  go_wp2_with (go_at_fn 97; refine (tz64_calls _ hT).mono ?_; rintro e w' ⟨rfl, rfl⟩)
  go_ret
  exact ⟨rfl, rfl⟩
def digs : ByteArray := ⟨#[48, 49, 50, 51, 52, 53, 54, 55, 56, 57, 97, 98, 99, 100, 101, 102, 103, 104, 105, 106, 107, 108, 109, 110, 111, 112, 113, 114, 115, 116, 117, 118, 119, 120, 121, 122]⟩
theorem dig_all : ∀ k : Fin 16, (digs.data.toList.getD k.val 0).toNat = hexD k.val := by decide
theorem dig_at {k : Nat} (h : k < 16) (h' : k < digs.size) : (digs[k]'h').toNat = hexD k := by
  have := dig_all ⟨k, h⟩
  rw [← this]
  show _ = (digs.data.toList.getD k 0).toNat
  have hk : k < digs.data.toList.length := by rw [← Lib.size_eq]; exact h'
  rw [List.getD_eq_getElem?_getD, List.getElem?_eq_getElem hk]
  rfl
theorem hexD_lt {k : Nat} (h : k < 16) : hexD k < 256 := by unfold hexD; split <;> omega
theorem hexJ_eq {n j m : Nat} (hn : n < 65536) (hj : j ≤ 3) (hm : m = n / 16 ^ j) (h : ¬ 16 ≤ m) (hL : ∀ k, k < j → 16 ≤ n / 16 ^ k) : hexJ n = j := by
  subst hm
  unfold hexJ
  have h0 := fun hj => hL 0 hj
  have h1 := fun hj => hL 1 hj
  have h2 := fun hj => hL 2 hj
  obtain rfl | rfl | rfl | rfl : j = 0 ∨ j = 1 ∨ j = 2 ∨ j = 3 := by omega
  · rw [if_pos (by omega)]
  · have := h0 (by omega)
    rw [if_neg (by omega), if_pos (by omega)]
  · have := h1 (by omega)
    rw [if_neg (by omega), if_neg (by omega), if_pos (by omega)]
  · have := h2 (by omega)
    rw [if_neg (by omega), if_neg (by omega), if_neg (by omega)]
theorem heapNew (w : World) (o : Obj) : (w.alloc o).heap[w.heap.size]? = some o := by
  rw [show (w.alloc o).heap = w.heap.push o from rfl]
  simp
def hexB (w : World) (B n j : Nat) (wr : World) : Prop := Below w.heap.size w wr ∧ ∃ cs, wr.heap[B]? = some (.cells cs 113 (0, 0)) ∧ cs.size = 65 ∧ ∀ k, k < j → cs[64 - k]? = some (.int .u8 (hexD (n / 16 ^ k % 16)))
theorem setCell_blk {W : World} {b j : Nat} {cs : Array Value} {t : TypeId} {fr : Nat × Nat} (v : Value) (h : W.heap[b]? = some (.cells cs t fr)) : (W.setCell ⟨b, j, none⟩ v).heap[b]? = some (.cells (cs.setIfInBounds j v) t fr) := by
  obtain ⟨hlt, hk⟩ := Array.getElem?_eq_some_iff.1 h
  show (W.heap.modify b _)[b]? = _
  rw [Array.getElem?_eq_getElem (by rw [Array.size_modify]; exact hlt), Array.getElem_modify_self, hk]; simp
theorem hexB_step {w wr : World} {B n j m : Nat} {i : Int} (hB0 : w.heap.size ≤ B) (h : hexB w B n j wr) (hi : i = 65 - j) (hj : j ≤ 3) (hm : m = n / 16 ^ j) : hexB w B n (j + 1) (wr.setCell ⟨B, i.toNat - 1, none⟩ (.int .u8 (hexD (m % 16) : Nat))) := by
  obtain ⟨hb, cs, hcs, hsz, hd⟩ := h
  have hit : i.toNat - 1 = 64 - j := by omega
  rw [hit]
  refine ⟨hb.setCell (p := ⟨B, 64 - j, none⟩) hB0 _, cs.setIfInBounds (64 - j) _, setCell_blk _ hcs, by rw [Array.size_setIfInBounds]; exact hsz, fun k hk => ?_⟩
  by_cases e : k = j
  · subst e
    rw [Array.getElem?_setIfInBounds_self_of_lt (by omega), ← hm]
  · rw [Array.getElem?_setIfInBounds_ne (by omega)]
    exact hd k (by omega)
theorem hexConv {w wr : World} {B n j m : Nat} {i : Int} (hB0 : w.heap.size ≤ B) (h : hexB w B n j wr) (hi : i = 65 - j) (hj : j ≤ 3) (hm : m = n / 16 ^ j) (hlt : m < 16) :
    (convert 69 9 (.slice (some ⟨B, i.toNat - 1, none⟩) (65 - (i.toNat - 1)) (65 - (i.toNat - 1)))).run Tryd.prog (wr.setCell ⟨B, i.toNat - 1, none⟩ (.int .u8 (hexD m : Nat))) = .ok (.string ⟨(hexS n j).toArray⟩) (wr.setCell ⟨B, i.toNat - 1, none⟩ (.int .u8 (hexD m : Nat))) := by
  have hs := hexB_step hB0 h hi hj hm
  rw [Nat.mod_eq_of_lt hlt] at hs
  obtain ⟨hb, cs, hcs, hsz, hd⟩ := hs
  have hit : i.toNat - 1 = 64 - j := by omega
  rw [hit] at hcs ⊢
  have hlen : (hexS n j).length = j + 1 := by unfold hexS; simp
  have := run_convert_bytes_back (P := Tryd.prog) (wr.setCell ⟨B, 64 - j, none⟩ (.int .u8 (hexD m : Nat))) 69 9 5 ⟨B, 64 - j, none⟩ (65 - (64 - j)) (hexS n j) Tryd.underlying69 Tryd.underlying5 Tryd.underlying9 (fun q hq => by
    rw [hlen] at hq
    have hk := hd (j - q) (by omega)
    rw [show 64 - (j - q) = 64 - j + q from by omega] at hk
    have hadd : (⟨B, 64 - j, none⟩ : Addr).add q = ⟨B, 64 - j + q, none⟩ := by unfold Addr.add; split <;> simp_all
    rw [hadd]
    unfold World.cell?
    rw [hcs]
    simp only [hk]
    have hv : (hexS n j)[q]'(by rw [hlen]; exact hq) = UInt8.ofNat (hexD (n / 16 ^ (j - q) % 16)) := by unfold hexS; simp
    rw [hv, UInt8.toNat_ofNat_of_lt' (hexD_lt (Nat.mod_lt _ (by decide)))]
    rfl)
  rw [hlen] at this
  rw [show 65 - (64 - j) = j + 1 from by omega] at this ⊢
  exact this
set_option maxRecDepth 100000 in
set_option maxHeartbeats 4000000 in
theorem fmtBits_calls (n : Nat) (hn : n < 65536) (w : World) (hT : UTabs w) : Calls Tryd.prog 79 #[.slice none 0 0, .int .u64 n, .int .i64 16, .bool false, .bool false] w fun e w' => e = .returned (.tuple #[.slice none 0 0, .string ⟨(hexU n).toArray⟩]) ∧ Below w.heap.size w w' := by
  have HT := Lib.hid hT
  clear hT
  have e93 : ∀ args w, (callFunc 93 args).run Tryd.prog w = .ok (.enter 93 args) w := enters_of Tryd.func93 (by kernel_rfl) rfl
  have e94 : ∀ args w, (callFunc 94 args).run Tryd.prog w = .ok (.enter 94 args) w := enters_of Tryd.func94 (by kernel_rfl) rfl
  go_enter Tryd.func79, Tryd.ntmps79
  go_wp2_with (first
    | (go_at_fn 93; refine (pow2_calls _).mono ?_; rintro e w' ⟨rfl, rfl⟩)
    | (go_at_fn 94; refine (tz_calls _ (HT.out.below ((Below.refl _ w).alloc (Nat.le_refl _) _))).mono ?_; rintro e w' ⟨rfl, rfl⟩))
  have hB0 : hexB w w.heap.size n 0 (w.alloc (.cells (Array.replicate 65 (.int .u8 0)) 113)) := ⟨(Below.refl _ w).alloc (Nat.le_refl _) _, _, heapNew w _, by simp, fun k hk => absurd hk (Nat.not_lt_zero _)⟩
  have HB0 := Lib.hid hB0
  clear hB0
  go_loopg [1, 13] 4 (fun gg s1 s13 wr => ∃ (j m : Nat) (i : Int), s1 = .int .u64 m ∧ s13 = .int .i64 i ∧ Hid (m = n / 16 ^ j ∧ i = 65 - j ∧ j ≤ 3 ∧ 3 - j ≤ gg) ∧ Hid (hexB w w.heap.size n j wr) ∧ Hid (∀ k, k < j → 16 ≤ n / 16 ^ k))
  case atStart => exact ⟨0, n, 65, rfl, rfl, Lib.hid ⟨by simp, by simp, by omega, by omega⟩, HB0, Lib.hid (fun k hk => absurd hk (Nat.not_lt_zero _))⟩
  case round =>
    obtain ⟨j, m, i, rfl, rfl, HJ, HW, HL⟩ := hrel
    obtain ⟨hm, hi, hj, hg⟩ := HJ.out
    obtain ⟨hbw, cs, hcs, hsz, hd⟩ := HW.out
    have hi0 : (wr.cell? ⟨w.heap.size, i.toNat - 1, none⟩) = some (cs[i.toNat - 1]'(by omega)) := by
      unfold World.cell?; rw [hcs]; simp
    have hf0 : wr.frozen? ⟨w.heap.size, i.toNat - 1, none⟩ = false := by
      unfold World.frozen?; rw [hcs]; simp
    have hmlt : m < 65536 := by rw [hm]; exact Nat.lt_of_le_of_lt (Nat.div_le_self _ _) hn
    have hand : Go.bits .and .u64 (m : Int) 15 = (m : Int) % 16 := bits_mask .u64 16 (by decide) (fun x h0 h1 => by rw [IntKind.wrap_u64]; omega) 4 (by decide) m (by omega) (by omega)
    have i0 : 62 ≤ i := by omega
    have hj2 : 16 ≤ m → j ≤ 2 := fun h => by
      rcases Nat.lt_or_ge j 3 with h3 | h3
      · omega
      · obtain rfl : j = 3 := by omega
        omega
    have HJ2 := Lib.hid hj2
    clear hj2
    have i1 : i ≤ 65 := by omega
    generalize hv0 : cs[i.toNat - 1]'(by omega) = v0 at hi0
    clear hm hi hj hg hcs hd hv0
    by_cases h16 : 16 ≤ m
    · have h16z : (16 : Int) ≤ (m : Int) := by omega
      have hdig : (((⟨#[48, 49, 50, 51, 52, 53, 54, 55, 56, 57, 97, 98, 99, 100, 101, 102, 103, 104, 105, 106, 107, 108, 109, 110, 111, 112, 113, 114, 115, 116, 117, 118, 119, 120, 121, 122]⟩ : ByteArray)[m % 16]'(show m % 16 < 36 by omega)).toNat : Int) = ((hexD (m % 16) : Nat) : Int) := congrArg Nat.cast (dig_at (by omega) (show m % 16 < 36 by omega))
      obtain ⟨hx, hhx⟩ : ∃ hx, hx = hexD (m % 16) := ⟨_, rfl⟩
      rw [← hhx] at hdig
      have HX := Lib.hid hhx
      clear hhx
      go_wp2
      go_roundg (3 - (j + 1))
      case measure => have := HJ2.out h16; have := HJ.out; omega
      case rel =>
        have h1 := HJ.out
        have h2 := HJ2.out h16
        refine ⟨j + 1, m / 16, i - 1, ?_, ?_, Lib.hid ?_, Lib.hid ?_, Lib.hid ?_⟩
        · go_num
        · rfl
        · refine ⟨?_, by omega, by omega, by omega⟩
          rw [Nat.pow_succ, ← Nat.div_div_eq_div_mul, ← h1.1]
        · rw [HX.out]
          exact hexB_step (Nat.le_refl _) HW.out h1.2.1 h1.2.2.1 h1.1
        · intro k hk
          by_cases e : k = j
          · subst e; rw [← h1.1]; exact h16
          · exact HL.out k (by omega)
    · have h16z : ¬ (16 : Int) ≤ (m : Int) := by omega
      have hdig : (((⟨#[48, 49, 50, 51, 52, 53, 54, 55, 56, 57, 97, 98, 99, 100, 101, 102, 103, 104, 105, 106, 107, 108, 109, 110, 111, 112, 113, 114, 115, 116, 117, 118, 119, 120, 121, 122]⟩ : ByteArray)[m]'(show m < 36 by omega)).toNat : Int) = ((hexD m : Nat) : Int) := congrArg Nat.cast (dig_at (by omega) (show m < 36 by omega))
      obtain ⟨hx, hhx⟩ : ∃ hx, hx = hexD m := ⟨_, rfl⟩
      rw [← hhx] at hdig
      have HX := Lib.hid hhx
      clear hhx
      have h1 := HJ.out
      have hconv := hexConv (Nat.le_refl _) HW.out h1.2.1 h1.2.2.1 h1.1 (by omega)
      have hJn : hexU n = hexS n j := by unfold hexU; rw [hexJ_eq hn h1.2.2.1 h1.1 h16 HL.out]
      have HBW := Lib.hid HW.out.1
      have HJN := Lib.hid hJn
      rw [← HX.out] at hconv
      have hal : Tryd.prog.arrayLen 113 = 65 := by kernel_rfl
      have hsl : ∀ W, (Instr.sliceAt 113 (.pointer (some ⟨w.heap.size, 0, none⟩)) (some (.int .i64 (i - 1))) none none).run Tryd.prog W = .ok (.slice (some ⟨w.heap.size, i.toNat - 1, none⟩) (65 - (i.toNat - 1)) (65 - (i.toNat - 1))) W := fun W => by
        rw [run_sliceAt_array_l W 113 ⟨w.heap.size, 0, none⟩ (by kernel_rfl) .i64 (i - 1) (by omega) (by rw [hal]; omega)]
        go_simp
        omega
      clear h1 hJn hal
      go_wp2
      go_ret2
      rw [HJN.out]
      exact ⟨rfl, HBW.out.setCell (p := ⟨w.heap.size, i.toNat - 1, none⟩) (Nat.le_refl _) _⟩
theorem fmtU1_calls (n : Nat) (hn : n < 65536) (w : World) (hT : UTabs w) : Calls Tryd.prog 61 #[.int .u64 n, .int .i64 16] w fun e w' => e = .returned (.string ⟨(hexU n).toArray⟩) ∧ Below w.heap.size w w' := by
  have e79 : ∀ args w, (callFunc 79 args).run Tryd.prog w = .ok (.enter 79 args) w := enters_of Tryd.func79 (by kernel_rfl) rfl
  have hcall := fmtBits_calls n hn w hT
  generalize (⟨(hexU n).toArray⟩ : ByteArray) = r at *
  clear hT
  go_enter Tryd.func61, Tryd.ntmps61
  go_wp2_with fail
  refine hcall.mono ?_
  rintro e w' ⟨rfl, hb⟩
  go_wp2
  go_ret
  exact ⟨rfl, hb⟩
theorem fmtU_calls (n : Nat) (hn : n < 65536) (w : World) (hT : UTabs w) : Calls Tryd.prog 51 #[.int .u64 n, .int .i64 16] w fun e w' => e = .returned (.string ⟨(hexU n).toArray⟩) ∧ Below w.heap.size w w' := by
  have e61 : ∀ args w, (callFunc 61 args).run Tryd.prog w = .ok (.enter 61 args) w := enters_of Tryd.func61 (by kernel_rfl) rfl
  have hcall := fmtU1_calls n hn w hT
  generalize (⟨(hexU n).toArray⟩ : ByteArray) = r at *
  clear hT
  go_enter Tryd.func51, Tryd.ntmps51
  go_wp2_with fail
  refine hcall.mono ?_
  rintro e w' ⟨rfl, hb⟩
  go_wp2
  go_ret
  exact ⟨rfl, hb⟩
def strconv_FormatUint_51.f (a0 a1 : Int) : Option ByteArray := if 0 ≤ a0 ∧ a0 < 65536 ∧ a1 = 16 then some ⟨(hexU a0.toNat).toArray⟩ else none
theorem strconv_FormatUint_51.calls (a0 a1 : Int) (r : ByteArray) (w : World) (hT : UTabs w) (h : strconv_FormatUint_51.f a0 a1 = some r) :
    Calls Tryd.prog 51 #[.int .u64 a0, .int .i64 a1] w fun e w' => e = .returned (.string r) ∧ Below w.heap.size w w' := by
  unfold strconv_FormatUint_51.f at h
  split at h
  · rename_i hs
    obtain ⟨h0, h1, rfl⟩ := hs
    obtain rfl := Option.some.inj h
    obtain ⟨n, rfl⟩ : ∃ n : Nat, a0 = n := ⟨a0.toNat, by omega⟩
    rw [Int.toNat_natCast]
    exact fmtU_calls n (by omega) w hT
  · cases h
end Go.Proofs.YtkabhnbjjnjdhaaDoor.Q
