/- Functions of the given program as plain Lean functions, each with the proof that the machine answers as it does; laid by a program of mine over the kit print. -/
/- pct.turned: what it answers at every text. -/
import Derived.Test.YtnndgmbflkdhkaaGreatDoorSB4
import Derived.Test.YtnndgmbflkdhkaaGreatDoorSQstringslite0
import Derived.Test.YtnndgmbflkdhkaaGreatDoorSB6
import Derived.LoopTactic
import Derived.Lib.Hide
import Derived.Lib.ConvBytes
import Derived.Laws.BytesArg
section
namespace Go.Proofs.YtnndgmbflkdhkaaGreatDoor.Q
open Go.RowKit Go.Proofs.YtnndgmbflkdhkaaGreatDoorW.PrintWords Go.Proofs.YtnndgmbflkdhkaaGreatDoorW.PrintLast Go.Proofs.YtnndgmbflkdhkaaGreatDoorW.PrintMore
attribute [local go_sem] max2_int min2_int max_two min_two max_three min_three max_four min_four
set_option linter.unusedVariables false
set_option linter.unusedSimpArgs false
def strings_CutPrefix.f (a0 : ByteArray) (a1 : ByteArray) : Option (ByteArray × Bool) := (stringslite_CutPrefix.f a0 a1).bind fun bt102 => (some (bt102.1, bt102.2))
set_option maxHeartbeats 8000000 in
set_option maxRecDepth 100000 in
theorem strings_CutPrefix.calls (a0 : ByteArray) (a1 : ByteArray) (r1 : ByteArray) (r2 : Bool) (w : World) (h : strings_CutPrefix.f a0 a1 = some (r1, r2)) :
  Calls Tryz.prog 63 #[.string a0, .string a1] w fun e w' => e = .returned (.tuple #[.string r1, .bool r2]) ∧ Drawn0 w w' := by
 have H : ((stringslite_CutPrefix.f a0 a1).bind fun bt102 => (some (bt102.1, bt102.2))) = some (r1, r2) := h
 clear h
 replace H := Option.bind_eq_some_iff.mp H
 obtain ⟨⟨t102, t103⟩, A30, H⟩ := H
 replace H : (some (t102, t103)) = some (r1, r2) := H
 have A3 := Aside0.mk A30
 clear A30
 simp only [Option.some.injEq, Prod.mk.injEq] at H
 obtain ⟨rfl, rfl⟩ := H
 go_enter Tryz.func63, Tryz.ntmps63
 go_wp2_with (first | ((with_reducible refine gate_callee (f := 89) rfl ?_); refine goesL_ (some 8) rfl rfl Tryz.func89 (by kernel_rfl) rfl #[.string a0, .string a1] rfl (by (try simp only [List.map_toArray, List.map_cons, List.map_nil]); first | done | rfl | (simp only [List.length_drop, List.length_take]; rfl)) ?_; (with_reducible refine (stringslite_CutPrefix.calls a0 a1 t102 t103 _ A3.out).mono ?_); rintro e w' ⟨rfl, ⟨nd, rfl⟩⟩; refine ⟨_, rfl, ?_⟩))
 go_ret2
 exact ⟨by first | rfl | (simp; done) | (simp [*]; done), by repeat (first | exact Drawn0.refl _ | apply Drawn0.step)⟩
def strings_CutSuffix.f (a0 : ByteArray) (a1 : ByteArray) : Option (ByteArray × Bool) := (stringslite_CutSuffix.f a0 a1).bind fun bt105 => (some (bt105.1, bt105.2))
set_option maxHeartbeats 8000000 in
set_option maxRecDepth 100000 in
theorem strings_CutSuffix.calls (a0 : ByteArray) (a1 : ByteArray) (r1 : ByteArray) (r2 : Bool) (w : World) (h : strings_CutSuffix.f a0 a1 = some (r1, r2)) :
  Calls Tryz.prog 64 #[.string a0, .string a1] w fun e w' => e = .returned (.tuple #[.string r1, .bool r2]) ∧ Drawn0 w w' := by
 have H : ((stringslite_CutSuffix.f a0 a1).bind fun bt105 => (some (bt105.1, bt105.2))) = some (r1, r2) := h
 clear h
 replace H := Option.bind_eq_some_iff.mp H
 obtain ⟨⟨t105, t106⟩, A30, H⟩ := H
 replace H : (some (t105, t106)) = some (r1, r2) := H
 have A3 := Aside0.mk A30
 clear A30
 simp only [Option.some.injEq, Prod.mk.injEq] at H
 obtain ⟨rfl, rfl⟩ := H
 go_enter Tryz.func64, Tryz.ntmps64
 go_wp2_with (first | ((with_reducible refine gate_callee (f := 90) rfl ?_); refine goesL_ (some 8) rfl rfl Tryz.func90 (by kernel_rfl) rfl #[.string a0, .string a1] rfl (by (try simp only [List.map_toArray, List.map_cons, List.map_nil]); first | done | rfl | (simp only [List.length_drop, List.length_take]; rfl)) ?_; (with_reducible refine (stringslite_CutSuffix.calls a0 a1 t105 t106 _ A3.out).mono ?_); rintro e w' ⟨rfl, ⟨nd, rfl⟩⟩; refine ⟨_, rfl, ?_⟩))
 go_ret2
 exact ⟨by first | rfl | (simp; done) | (simp [*]; done), by repeat (first | exact Drawn0.refl _ | apply Drawn0.step)⟩
def strings_TrimPrefix.f (a0 : ByteArray) (a1 : ByteArray) : Option (ByteArray) := (stringslite_TrimPrefix.f a0 a1).bind fun t110 => (some t110)
set_option maxHeartbeats 8000000 in
set_option maxRecDepth 100000 in
theorem strings_TrimPrefix.calls (a0 : ByteArray) (a1 : ByteArray) (r : ByteArray) (w : World) (h : strings_TrimPrefix.f a0 a1 = some r) :
  Calls Tryz.prog 68 #[.string a0, .string a1] w fun e w' => e = .returned (.string r) ∧ Drawn0 w w' := by
 have H : ((stringslite_TrimPrefix.f a0 a1).bind fun t110 => (some t110)) = some r := h
 clear h
 replace H := Option.bind_eq_some_iff.mp H
 obtain ⟨t110, A30, H⟩ := H
 replace H : (some t110) = some r := H
 have A3 := Aside0.mk A30
 clear A30
 obtain rfl := Option.some.inj H
 go_enter Tryz.func68, Tryz.ntmps68
 go_wp2_with (first | ((with_reducible refine gate_callee (f := 94) rfl ?_); refine goesL_ (some 7) rfl rfl Tryz.func94 (by kernel_rfl) rfl #[.string a0, .string a1] rfl (by (try simp only [List.map_toArray, List.map_cons, List.map_nil]); first | done | rfl | (simp only [List.length_drop, List.length_take]; rfl)) ?_; (with_reducible refine (stringslite_TrimPrefix.calls a0 a1 t110 _ A3.out).mono ?_); rintro e w' ⟨rfl, ⟨nd, rfl⟩⟩; refine ⟨_, rfl, ?_⟩))
 go_ret
 exact ⟨by first | rfl | (simp; done) | (simp [*]; done), by repeat (first | exact Drawn0.refl _ | apply Drawn0.step)⟩
def strings_HasPrefix.f (a0 : ByteArray) (a1 : ByteArray) : Option (Bool) := (stringslite_HasPrefix.f a0 a1).bind fun t111 => (some t111)
set_option maxHeartbeats 8000000 in
set_option maxRecDepth 100000 in
theorem strings_HasPrefix.calls (a0 : ByteArray) (a1 : ByteArray) (r : Bool) (w : World) (h : strings_HasPrefix.f a0 a1 = some r) :
  Calls Tryz.prog 69 #[.string a0, .string a1] w fun e w' => e = .returned (.bool r) ∧ Drawn0 w w' := by
 have H : ((stringslite_HasPrefix.f a0 a1).bind fun t111 => (some t111)) = some r := h
 clear h
 replace H := Option.bind_eq_some_iff.mp H
 obtain ⟨t111, A30, H⟩ := H
 replace H : (some t111) = some r := H
 have A3 := Aside0.mk A30
 clear A30
 obtain rfl := Option.some.inj H
 go_enter Tryz.func69, Tryz.ntmps69
 go_wp2_with (first | ((with_reducible refine gate_callee (f := 95) rfl ?_); refine goesL_ (some 7) rfl rfl Tryz.func95 (by kernel_rfl) rfl #[.string a0, .string a1] rfl (by (try simp only [List.map_toArray, List.map_cons, List.map_nil]); first | done | rfl | (simp only [List.length_drop, List.length_take]; rfl)) ?_; (with_reducible refine (stringslite_HasPrefix.calls a0 a1 t111 _ A3.out).mono ?_); rintro e w' ⟨rfl, ⟨nd, rfl⟩⟩; refine ⟨_, rfl, ?_⟩))
 go_ret
 exact ⟨by first | rfl | (simp; done) | (simp [*]; done), by repeat (first | exact Drawn0.refl _ | apply Drawn0.step)⟩
end Go.Proofs.YtnndgmbflkdhkaaGreatDoor.Q
end
section
set_option linter.unusedSimpArgs false
set_option linter.unusedVariables false
namespace Go.Proofs.YtnndgmbflkdhkaaGreatDoor.Q
open Go.RowKit Go.Proofs.YtnndgmbflkdhkaaGreatDoorW.PrintWords Go.Proofs.YtnndgmbflkdhkaaGreatDoorW.PrintLast Go.Proofs.YtnndgmbflkdhkaaGreatDoorW.PrintMore Go.Proofs.YtnndgmbflkdhkaaGreatDoor.P1
def turnV (f t b x : Int) : Int := if f ≤ x ∧ x ≤ t then Go.bits .xor .u8 x b else x
def turnL (f t b : Int) (l : List UInt8) : List Int := l.map fun c => turnV f t b c.toNat
def pct_turned.f (a0 : ByteArray) (a1 a2 a3 : Int) : Option ByteArray := if a0.size ≤ 281474976710656 then some (strOfNums (turnL a1 a2 a3 a0.data.toList)) else none
theorem turnL_getD (f t b : Int) (s : ByteArray) (j : Nat) (h : j < s.size) : (turnL f t b s.data.toList).getD j 0 = turnV f t b (s[j].toNat : Int) := by
  unfold turnL
  rw [List.getD_eq_getElem?_getD, List.getElem?_map, byte_at s j h]
  rfl
/-- the cell at j after k rounds -/
def mid (f t b : Int) (s : ByteArray) (k j : Nat) : Int := if j < k then (turnL f t b s.data.toList).getD j 0 else (s.data.toList.getD j 0).toNat
theorem mid_at (f t b : Int) (s : ByteArray) (k : Nat) (h : k < s.size) : mid f t b s k k = (s[k].toNat : Int) := by
  unfold mid
  rw [if_neg (by omega), List.getD_eq_getElem?_getD, byte_at s k h]
  rfl
theorem mid_step (f t b : Int) (s : ByteArray) (k j : Nat) (h : j ≠ k) : mid f t b s (k + 1) j = mid f t b s k j := by
  unfold mid
  by_cases h1 : j < k
  · rw [if_pos h1, if_pos (by omega)]
  · rw [if_neg h1, if_neg (by omega)]
theorem mid_new (f t b : Int) (s : ByteArray) (k : Nat) (h : k < s.size) : mid f t b s (k + 1) k = turnV f t b (s[k].toNat : Int) := by
  unfold mid; rw [if_pos (by omega), turnL_getD _ _ _ _ _ h]
set_option maxHeartbeats 1000000 in
set_option maxRecDepth 100000 in
theorem turned_any (s : ByteArray) (f t b : Int) (w : World) (hs : s.size ≤ 281474976710656) :
    Calls Tryz.prog 43 #[.string s, .int .u8 f, .int .u8 t, .int .u8 b] w fun e w' => e = .returned (.string (strOfNums (turnL f t b s.data.toList))) ∧ Below w.heap.size w w' := by
  have hcv := Lib.run_convert_string_bytes (P := Tryz.prog) w 9 84 5 s (u := .string) Tryz.underlying9 Tryz.underlying84 Tryz.underlying5
  have k1 := Lib.hid (fun j (hj : j < s.size) => Lib.bytesWorld_cell w 5 s j hj)
  have k2 := Lib.hid (show Below w.heap.size w (Lib.bytesWorld w 5 s) from ⟨rfl, rfl, rfl, by rw [Lib.bytesWorld_size]; omega, fun k hk => Lib.bytesWorld_at_old w 5 s k hk⟩)
  have k3 := Lib.hid (fun j (hj : j < s.size) => show (Lib.bytesWorld w 5 s).frozen? ⟨w.heap.size, j, none⟩ = false by
    have hz := Lib.bytesWorld_at_new w 5 s
    have : s.size ≤ (Lib.bytesCells w 5 s).size := by simp [Lib.bytesCells]
    simp [World.frozen?, hz]; omega)
  generalize Lib.bytesWorld w 5 s = W1 at *
  generalize hcap : grownCap w s.size 0 5 = cap at *
  clear hcap
  go_enter Tryz.func43, Tryz.ntmps43
  go_wp2
  clear hcv
  go_loopw [16] (fun c wr => ∃ k : Nat, k ≤ s.size ∧ c = .int .i64 k ∧ (∀ j, j < s.size → wr.cell? ⟨w.heap.size, j, none⟩ = some (.int .u8 (mid f t b s k j))) ∧ (∀ j, j < s.size → wr.frozen? ⟨w.heap.size, j, none⟩ = false) ∧ Below w.heap.size w wr) (fun c _ => s.size - (intOf c).toNat)
  case atStart => exact ⟨0, Nat.zero_le _, rfl, fun j hj => by rw [k1.out j hj]; simp [mid], k3.out, k2.out⟩
  case round =>
    clear k1 k2 k3
    obtain ⟨k, hk, rfl, hc, hf, hbel⟩ := hrel
    have HC := Lib.hid hc
    have HF := Lib.hid hf
    have HB := Lib.hid hbel
    clear hc hf hbel
    by_cases hlt : k < s.size
    · have c0 := HC.out k hlt
      rw [mid_at f t b s k hlt] at c0
      have f0 := HF.out k hlt
      by_cases hin : f ≤ (s[k].toNat : Int) ∧ (s[k].toNat : Int) ≤ t
      · have HV := Lib.hid (show turnV f t b (s[k].toNat : Int) = Go.bits .xor .u8 (s[k].toNat : Int) b by unfold turnV; rw [if_pos hin])
        have i1 : decide (f ≤ (s[k].toNat : Int)) = true := decide_eq_true hin.1
        have i2 : decide ((s[k].toNat : Int) ≤ t) = true := decide_eq_true hin.2
        clear hin
        go_wp2
        go_roundw
        case rel =>
          refine ⟨k + 1, by omega, by go_num, fun j hj => ?_, fun j hj => by rw [World.frozen?_setCell]; exact HF.out j hj, HB.out.setCell (Nat.le_refl _) _⟩
          by_cases e : j = k
          · subst e; rw [mid_new f t b s j hj, HV.out]; exact World.cell?_setCell_same' _ _ _ (by rw [c0]; rfl)
          · rw [mid_step f t b s k j e, World.cell?_setCell_other _ _ _ _ (by simp <;> omega)]; exact HC.out j hj
        case measure => simp [intOf] <;> omega
      · have HV := Lib.hid (show turnV f t b (s[k].toNat : Int) = (s[k].toNat : Int) by unfold turnV; rw [if_neg hin])
        have HX := Lib.hid hin
        by_cases i1 : f ≤ (s[k].toNat : Int)
        · have i1' : decide (f ≤ (s[k].toNat : Int)) = true := decide_eq_true i1
          have i2' : decide ((s[k].toNat : Int) ≤ t) = false := decide_eq_false (fun h => hin ⟨i1, h⟩)
          clear hin i1
          go_wp2
          go_roundw
          case rel =>
            refine ⟨k + 1, by omega, by go_num, fun j hj => ?_, HF.out, HB.out⟩
            by_cases e : j = k
            · subst e; rw [mid_new f t b s j hj, HV.out, ← mid_at f t b s j hj]; exact HC.out j hj
            · rw [mid_step f t b s k j e]; exact HC.out j hj
          case measure => simp [intOf] <;> omega
        · have i1' : decide (f ≤ (s[k].toNat : Int)) = false := decide_eq_false i1
          clear hin i1
          go_wp2
          go_roundw
          case rel =>
            refine ⟨k + 1, by omega, by go_num, fun j hj => ?_, HF.out, HB.out⟩
            by_cases e : j = k
            · subst e; rw [mid_new f t b s j hj, HV.out, ← mid_at f t b s j hj]; exact HC.out j hj
            · rw [mid_step f t b s k j e]; exact HC.out j hj
          case measure => simp [intOf] <;> omega
    · have hge : decide (k < s.size) = false := decide_eq_false hlt
      have hback := run_convert_bytes_arg (P := Tryz.prog) wr 84 5 Tryz.underlying84 Tryz.underlying5 w.heap.size 0 s.size cap (turnL f t b s.data.toList) (by simp [turnL]) (fun i hi => by rw [Nat.zero_add, HC.out i hi]; unfold mid; rw [if_pos (by omega)]) 9 Tryz.underlying9
      go_wp2
      go_ret
      exact ⟨rfl, HB.out⟩
theorem pct_turned.calls (a0 : ByteArray) (a1 a2 a3 : Int) (r : ByteArray) (w : World) (h : pct_turned.f a0 a1 a2 a3 = some r) :
    Calls Tryz.prog 43 #[.string a0, .int .u8 a1, .int .u8 a2, .int .u8 a3] w fun e w' => e = .returned (.string r) ∧ Below w.heap.size w w' := by
  unfold pct_turned.f at h
  split at h
  · obtain rfl := Option.some.inj h
    exact turned_any a0 a1 a2 a3 w (by assumption)
  · cases h
end Go.Proofs.YtnndgmbflkdhkaaGreatDoor.Q
end
