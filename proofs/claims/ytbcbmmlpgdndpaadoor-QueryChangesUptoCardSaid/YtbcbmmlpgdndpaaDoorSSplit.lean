/- strings.SplitSeq at a separator of one byte: what its iterator hands over. -/
import Derived.Test.YtbcbmmlpgdndpaaDoorSSeq
import Derived.Test.YtbcbmmlpgdndpaaDoorSB7
import Derived.Lib.Hide
import Derived.Laws.Runes
set_option linter.unusedSimpArgs false
set_option linter.unusedVariables false
namespace Go.Proofs
open Go.Shelf Go.RowKit
def Tryd.lays143_ren : Go.Shelf.Ren := ⟨fun | 143 => 71 | 217 => 87 | 219 => 72 | 224 => 89 | 225 => 88 | 266 => 100 | 267 => 90 | 314 => 101 | n => n, fun | 3 => 3 | 4 => 4 | 5 => 5 | 9 => 9 | 46 => 86 | 51 => 121 | 146 => 122 | n => n, fun | 1 => 2 | n => n⟩
theorem Tryd.lays143 : Go.Proofs.Lays.n143 Tryd.prog Tryd.lays143_ren := {
  mixed := by kernel_rfl
  f143 := Tryd.func71.trans (congrArg some (by kernel_rfl))
  f217 := Tryd.func87.trans (congrArg some (by kernel_rfl))
  f219 := Tryd.func72.trans (congrArg some (by kernel_rfl))
  f224 := Tryd.func89.trans (congrArg some (by kernel_rfl))
  f225 := Tryd.func88.trans (congrArg some (by kernel_rfl))
  f266 := Tryd.func100.trans (congrArg some (by kernel_rfl))
  f267 := Tryd.func90.trans (congrArg some (by kernel_rfl))
  f314 := Tryd.func101.trans (congrArg some (by kernel_rfl))
  t3 := Tryd.underlying3
  a3 := Tryd.isAgg3
  z3 := Tryd.sizeOf3
  v3 := Tryd.zeroValue3
  t4 := Tryd.underlying4
  a4 := Tryd.isAgg4
  z4 := Tryd.sizeOf4
  v4 := Tryd.zeroValue4
  t5 := Tryd.underlying5
  a5 := Tryd.isAgg5
  z5 := Tryd.sizeOf5
  v5 := Tryd.zeroValue5
  t9 := Tryd.underlying9
  a9 := Tryd.isAgg9
  z9 := Tryd.sizeOf9
  v9 := Tryd.zeroValue9
  t46 := Tryd.underlying86
  a46 := Tryd.isAgg86
  z46 := Tryd.sizeOf86
  v46 := Tryd.zeroValue86
  t51 := Tryd.underlying121
  a51 := Tryd.isAgg121
  z51 := Tryd.sizeOf121
  v51 := Tryd.zeroValue121
  t146 := Tryd.underlying122
  a146 := Tryd.isAgg122
  z146 := Tryd.sizeOf122
  v146 := Tryd.zeroValue122
  g1 := by kernel_rfl }
end Go.Proofs
namespace Go.Proofs.YtbcbmmlpgdndpaaDoor.Q
open Go.RowKit Go.Proofs.YtbcbmmlpgdndpaaDoorW.PrintWords Go.Proofs.YtbcbmmlpgdndpaaDoorW.PrintLast Go.Proofs.YtbcbmmlpgdndpaaDoorW.PrintMore Go.Proofs.YtbcbmmlpgdndpaaDoor.R
attribute [local go_sem] Oper.semAt_some
/-- what stands between bytes c -/
def parts (c : UInt8) : List UInt8 → List (List UInt8)
  | [] => [[]]
  | b :: r => if b = c then [] :: parts c r else match parts c r with
    | [] => [[b]]
    | p :: ps => (b :: p) :: ps
theorem parts_ne (c : UInt8) : ∀ l, parts c l ≠ []
  | [] => by simp [parts]
  | b :: r => by
    unfold parts
    split
    · simp
    · split <;> simp
theorem parts_none (c : UInt8) : ∀ l : List UInt8, Lib.indexByte l c = -1 → parts c l = [l]
  | [], _ => rfl
  | b :: r, h => by
    unfold Lib.indexByte at h
    split at h
    · cases h
    · rename_i hb
      have hr := Lib.indexByte_ge r c
      split at h
      · rename_i h1
        unfold parts
        rw [if_neg (by simpa using hb), parts_none c r (by simpa using h1)]
      · rename_i h1
        have : Lib.indexByte r c ≠ -1 := by simpa using h1
        omega
theorem parts_some (c : UInt8) : ∀ (l : List UInt8) (o : Nat), Lib.indexByte l c = o → o < l.length ∧ parts c l = l.take o :: parts c (l.drop (o + 1))
  | [], o, h => by unfold Lib.indexByte at h; omega
  | b :: r, o, h => by
    unfold Lib.indexByte at h
    split at h
    · rename_i hb
      obtain rfl : o = 0 := by omega
      refine ⟨by simp, ?_⟩
      conv => lhs; unfold parts
      rw [if_pos (by simpa using hb)]
      rfl
    · rename_i hb
      split at h
      · omega
      · rename_i h1
        have h2 : Lib.indexByte r c ≠ -1 := by simpa using h1
        have h3 := Lib.indexByte_ge r c
        obtain ⟨o', ho'⟩ : ∃ o' : Nat, Lib.indexByte r c = o' := ⟨(Lib.indexByte r c).toNat, by omega⟩
        obtain ⟨h4, h5⟩ := parts_some c r o' ho'
        obtain rfl : o = o' + 1 := by omega
        refine ⟨by simp; omega, ?_⟩
        conv => lhs; unfold parts
        rw [if_neg (by simpa using hb), h5]
        rfl
/-- what a round keeps of the iterator: its three variables -/
def KpS (B0 : Nat) (A C : World) : Prop := C.heap[B0]? = A.heap[B0]? ∧ C.heap[B0 + 1]? = A.heap[B0 + 1]? ∧ C.heap[B0 + 2]? = A.heap[B0 + 2]?
theorem leftS_eq {B0 : Nat} {w : World} {l : List UInt8} (h : Boxed w B0 9 (.string (B l))) : (match w.cell? ⟨B0, 0, none⟩ with
  | some (.string s) => s.size
  | _ => 0) = l.length := by
  rw [h.cell]; rfl
set_option maxRecDepth 100000 in
set_option maxHeartbeats 2000000 in
theorem split_in (B0 : Nat) (c : UInt8) (s : List UInt8) (hs : s.length ≤ 140737488350000) (l : Nat) (J : List (List UInt8) → World → Prop) (Jx : World → Prop)
    (hJ : ∀ pre A C row, J pre A → A.grownBy C row → (∀ r, row = some r → r = B0 ∧ ∃ x, Boxed C B0 9 x) → J pre C)
    (hY : ∀ pre x W1, J pre W1 → pre ++ [x] <+: parts c s → YieldAt Fence.wide 3 Tryd.prog l #[.string (B x)] W1 fun e W' => (e = .returned (.bool true) ∧ J (pre ++ [x]) W' ∧ KpS B0 W1 W') ∨ (e = .returned (.bool false) ∧ Jx W'))
    (W : World) (hc : Boxed W B0 9 (.string (B s))) (hsep : Boxed W (B0 + 1) 9 (.string (B [c]))) (hsav : Boxed W (B0 + 2) 3 (.int .i64 0)) (h0 : J [] W) :
    CallsIn Fence.wide 4 Tryd.prog 69 #[.func (.yield l) #[] #[], .pointer (some ⟨B0 + 1, 0, none⟩), .pointer (some ⟨B0, 0, none⟩), .pointer (some ⟨B0 + 2, 0, none⟩)] W fun e W' => (∃ v, e = .returned v) ∧ (J (parts c s) W' ∨ Jx W') := by
  refine callsIn_of_wp Tryd.func69 rfl trivial ?_ rfl
  simp only [Tryd.ntmps69, List.size_toArray, List.length_cons, List.length_nil, Nat.reduceAdd, Nat.reduceSub, Array.replicate_succ, Array.replicate_zero, List.push_toArray, List.append_toArray, List.nil_append, List.cons_append]
  have hsz1 : (B [c]).size = 1 := rfl
  have hcs := hsep.cell
  gi_wp2
  gi_loopw [7] (fun _ wr => ∃ (pre : List (List UInt8)) (t : List UInt8), parts c s = pre ++ parts c t ∧ t.length ≤ 140737488350000 ∧ Boxed wr B0 9 (.string (B t)) ∧ Boxed wr (B0 + 1) 9 (.string (B [c])) ∧ Boxed wr (B0 + 2) 3 (.int .i64 0) ∧ J pre wr) (fun _ wr => match wr.cell? ⟨B0, 0, none⟩ with
    | some (.string s) => s.size
    | _ => 0)
  case atStart => exact ⟨[], s, rfl, hs, hc, hsep, hsav, h0⟩
  case round =>
    clear hcs
    obtain ⟨pre, t, hx, ht, hb, hb1, hb2, hJs⟩ := hrel
    have hcell := hb.cell
    have hcs := hb1.cell
    have hcv := hb2.cell
    have HX := Lib.hid hx
    clear hx
    gi_wp2_with fail
    refine ⟨trivial, ?_⟩
    refine (callsIn_wide.2 (Any.strings_Index_one Tryd.lays143 (B t) c _)).mono ?_
    rintro e w1 ⟨rfl, rfl⟩
    rw [B_data]
    have hge := Lib.indexByte_ge t c
    by_cases hm : Lib.indexByte t c = -1
    · have HP := Lib.hid (parts_none c t hm)
      rw [hm]
      clear hm hge
      obtain ⟨fn, tmps, assign, body, hy, hR⟩ := hY pre t w1 hJs ⟨[], by rw [HX.out, HP.out, List.append_nil]⟩
      gi_wp2
      refine hR.mono ?_
      rintro e W3 (⟨rfl, hJ3, hk3⟩ | ⟨rfl, hx3⟩)
      · gi_wp2
        go_end0
        exact ⟨⟨_, rfl⟩, .inl (by rw [HX.out, HP.out]; exact hJ3)⟩
      · gi_wp2
        go_end0
        exact ⟨⟨_, rfl⟩, .inr hx3⟩
    · obtain ⟨o, ho⟩ : ∃ o : Nat, Lib.indexByte t c = o := ⟨(Lib.indexByte t c).toNat, by omega⟩
      obtain ⟨hol, hp⟩ := parts_some c t o ho
      rw [ho]
      have HP := Lib.hid hp
      clear hp ho hm hge
      have hneg : ¬ (o : Int) < 0 := by omega
      have g0 : o ≤ (B t).size := by rw [B_size]; omega
      have g1 : o + 1 ≤ (B t).size := by rw [B_size]; omega
      have hto : (B t).extract 0 o = B (t.take o) := by rw [B_extract]; rfl
      have wr1 : IntKind.i64.wrap ((o : Int) + 0) = o := by rw [Int.add_zero]; exact wrap_small _ (by omega) (by omega)
      have wr2 : IntKind.i64.wrap ((o : Int) + 1) = ((o + 1 : Nat) : Int) := by exact wrap_small _ (by omega) (by omega)
      have HL := Lib.hid (leftS_eq hb)
      obtain ⟨fn, tmps, assign, body, hy, hR⟩ := hY pre (t.take o) w1 hJs ⟨parts c (t.drop (o + 1)), by rw [HX.out, HP.out]; simp⟩
      gi_wp2
      refine hR.mono ?_
      rintro e W3 (⟨rfl, hJ3, hk3⟩ | ⟨rfl, hx3⟩)
      · have hB3 : Boxed W3 B0 9 (.string (B t)) := hk3.1.trans hb
        have hB31 : Boxed W3 (B0 + 1) 9 (.string (B [c])) := hk3.2.1.trans hb1
        have hB32 : Boxed W3 (B0 + 2) 3 (.int .i64 0) := hk3.2.2.trans hb2
        clear hcell hcs hcv hb hb1 hb2 hy hR
        have hcell := hB3.cell
        have hcs := hB31.cell
        have hfz := hB3.frozen
        gi_wp2_with fail
        have hB4 : Boxed (W3.setCell ⟨B0, 0, none⟩ (.string ((B t).extract (o + 1) (B t).size))) B0 9 (.string (B (t.drop (o + 1)))) := by
          have := hB3.set (.string ((B t).extract (o + 1) (B t).size))
          rw [B_extract_end] at this ⊢
          exact this
        refine ⟨⟨pre ++ [t.take o], t.drop (o + 1), by rw [HX.out, HP.out]; simp, by simp at ht ⊢; omega, hB4, hB31.other (by omega) _, hB32.other (by omega) _, hJ _ W3 _ (some B0) hJ3 (grownBy_setCell' W3 B0 _) (fun r e => by cases e; exact ⟨rfl, _, hB4⟩)⟩, ?_⟩
        rw [leftS_eq hB4, HL.out, List.length_drop]; omega
      · gi_wp2
        (try simp only [Exit.inBlock, Exit.then])
        refine bodyPost_ret (results_none rfl _ _ _) rfl ?_
        exact ⟨⟨_, rfl⟩, .inr hx3⟩
theorem splitSeq_calls (s c : ByteArray) (w : World) :
    Calls Tryd.prog 30 #[.string s, .string c] w fun e w' => e = .returned (.func (.func 69) #[] #[.pointer (some ⟨w.heap.size + 1, 0, none⟩), .pointer (some ⟨w.heap.size, 0, none⟩), .pointer (some ⟨w.heap.size + 2, 0, none⟩)]) ∧ Below w.heap.size w w' ∧ w'.heap.size = w.heap.size + 3 ∧ Boxed w' w.heap.size 9 (.string s) ∧ Boxed w' (w.heap.size + 1) 9 (.string c) ∧ Boxed w' (w.heap.size + 2) 3 (.int .i64 0) := by
  have h0 : Calls Tryd.prog 51 #[.string s, .string c, .int .i64 0] w fun e w' => e = .returned (.func (.func 69) #[] #[.pointer (some ⟨w.heap.size + 1, 0, none⟩), .pointer (some ⟨w.heap.size, 0, none⟩), .pointer (some ⟨w.heap.size + 2, 0, none⟩)]) ∧ w' = ((w.alloc (.cells #[.string s] 9)).alloc (.cells #[.string c] 9)).alloc (.cells #[.int .i64 0] 3) := by
    go_enter Tryd.func51, Tryd.ntmps51
    go_wp2
    go_ret
    exact ⟨by simp, rfl⟩
  go_enter Tryd.func30, Tryd.ntmps30
  go_wp2_with fail
  refine h0.mono ?_
  rintro e w' ⟨rfl, rfl⟩
  go_wp2
  go_ret
  refine ⟨rfl, (((Below.refl _ w).alloc (Nat.le_refl _) _).alloc (by simp) _).alloc (by simp; omega) _, by simp, ?_, ?_, ?_⟩
  · exact ((Boxed.new w _ _).alloc _).alloc _
  · have := Boxed.new (w.alloc (.cells #[.string s] 9)) 9 (.string c)
    rw [World.size_alloc] at this
    exact this.alloc _
  · have := Boxed.new ((w.alloc (.cells #[.string s] 9)).alloc (.cells #[.string c] 9)) 3 (.int .i64 0)
    rw [World.size_alloc, World.size_alloc] at this
    exact this
end Go.Proofs.YtbcbmmlpgdndpaaDoor.Q
