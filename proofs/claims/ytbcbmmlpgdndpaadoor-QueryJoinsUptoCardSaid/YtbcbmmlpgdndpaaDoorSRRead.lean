/- bastionref11.read: what it answers at every text. -/
import Derived.Test.YtbcbmmlpgdndpaaDoorSB3
import Derived.Test.YtbcbmmlpgdndpaaDoorSQuT
import Derived.Test.YtbcbmmlpgdndpaaDoorSQbastionref010
import Derived.Test.YtbcbmmlpgdndpaaDoorSQbastionref020
import Derived.LoopTactic
import Derived.Lib.Hide
import Derived.Lib.ConvBytes
import Derived.Laws.BytesArg
set_option linter.unusedSimpArgs false
set_option linter.unusedVariables false
namespace Go.Proofs.YtbcbmmlpgdndpaaDoor.Q
open Go.RowKit Go.Proofs.YtbcbmmlpgdndpaaDoorW.PrintWords Go.Proofs.YtbcbmmlpgdndpaaDoorW.PrintLast Go.Proofs.YtbcbmmlpgdndpaaDoorW.PrintMore Go.Proofs.YtbcbmmlpgdndpaaDoor.P1 Go.Proofs.YtbcbmmlpgdndpaaDoor.Qu
def bastionref11_read.f (k : Nat) (a0 : ByteArray) : Option ByteArray :=
  if a0.size ≤ 281474976710656 then (bastionref01_Decode.f k (B (unq a0.data.toList))).bind fun t => bastionref02_Scalar.f k t else none
theorem unq_getD (s : ByteArray) (j : Nat) (h : j < s.size) : (unq s.data.toList).getD j 0 = if s[j] = 43 then 32 else s[j] := by
  unfold unq
  rw [List.getD_eq_getElem?_getD, List.getElem?_map, byte_at s j h]
  rfl
/-- the cell at j after k rounds -/
def midU (s : ByteArray) (k j : Nat) : Int := if j < k then ((unq s.data.toList).getD j 0).toNat else (s.data.toList.getD j 0).toNat
theorem midU_at (s : ByteArray) (k : Nat) (h : k < s.size) : midU s k k = (s[k].toNat : Int) := by
  unfold midU
  rw [if_neg (by omega), List.getD_eq_getElem?_getD, byte_at s k h]
  rfl
theorem midU_step (s : ByteArray) (k j : Nat) (h : j ≠ k) : midU s (k + 1) j = midU s k j := by
  unfold midU
  by_cases h1 : j < k
  · rw [if_pos h1, if_pos (by omega)]
  · rw [if_neg h1, if_neg (by omega)]
theorem midU_new (s : ByteArray) (k : Nat) (h : k < s.size) : midU s (k + 1) k = if (s[k].toNat : Int) = 43 then 32 else (s[k].toNat : Int) := by
  unfold midU; rw [if_pos (by omega), unq_getD _ _ h]
  by_cases e : s[k] = 43
  · rw [if_pos e, e]; rfl
  · rw [if_neg e, if_neg (fun h => e (UInt8.toNat_inj.1 (by have : (43 : UInt8).toNat = 43 := rfl; omega)))]
set_option maxHeartbeats 1000000 in
set_option maxRecDepth 100000 in
theorem bastionref11_read.calls (k0 : Nat) (s : ByteArray) (r : ByteArray) (w : World) (hT : UTabs w) (h : bastionref11_read.f k0 s = some r) :
    Calls Tryd.prog 54 #[.string s] w fun e w' => e = .returned (.string r) ∧ Below w.heap.size w w' := by
  unfold bastionref11_read.f at h
  by_cases hs : s.size ≤ 281474976710656
  case neg => rw [if_neg hs] at h; cases h
  rw [if_pos hs] at h
  obtain ⟨t, h1, h2⟩ := Option.bind_eq_some_iff.1 h
  clear h hT
  have H1 := Lib.hid (fun W => bastionref01_Decode.calls k0 _ t W h1)
  have H2 := Lib.hid (fun W => bastionref02_Scalar.calls k0 t r W h2)
  clear h1 h2
  have hcv := Lib.run_convert_string_bytes (P := Tryd.prog) w 9 45 5 s (u := .string) Tryd.underlying9 Tryd.underlying45 Tryd.underlying5
  have k1 := Lib.hid (fun j (hj : j < s.size) => Lib.bytesWorld_cell w 5 s j hj)
  have k2 := Lib.hid (show Below w.heap.size w (Lib.bytesWorld w 5 s) from ⟨rfl, rfl, rfl, by rw [Lib.bytesWorld_size]; omega, fun k hk => Lib.bytesWorld_at_old w 5 s k hk⟩)
  have k3 := Lib.hid (fun j (hj : j < s.size) => show (Lib.bytesWorld w 5 s).frozen? ⟨w.heap.size, j, none⟩ = false by
    have hz := Lib.bytesWorld_at_new w 5 s
    have : s.size ≤ (Lib.bytesCells w 5 s).size := by simp [Lib.bytesCells]
    simp [World.frozen?, hz]; omega)
  generalize Lib.bytesWorld w 5 s = W1 at *
  generalize hcap : grownCap w s.size 0 5 = cap at *
  clear hcap
  go_enter Tryd.func54, Tryd.ntmps54
  go_wp2
  clear hcv
  go_loopw [9] (fun c wr => ∃ k : Nat, k ≤ s.size ∧ c = .int .i64 k ∧ (∀ j, j < s.size → wr.cell? ⟨w.heap.size, j, none⟩ = some (.int .u8 (midU s k j))) ∧ (∀ j, j < s.size → wr.frozen? ⟨w.heap.size, j, none⟩ = false) ∧ Below w.heap.size w wr) (fun c _ => s.size - (intOf c).toNat)
  case atStart => exact ⟨0, Nat.zero_le _, rfl, fun j hj => by rw [k1.out j hj]; simp [midU], k3.out, k2.out⟩
  case round =>
    clear k1 k2 k3
    obtain ⟨k, hk, rfl, hc, hf, hbel⟩ := hrel
    have HC := Lib.hid hc
    have HF := Lib.hid hf
    have HB := Lib.hid hbel
    clear hc hf hbel
    by_cases hlt : k < s.size
    · have c0 := HC.out k hlt
      rw [midU_at s k hlt] at c0
      have f0 := HF.out k hlt
      have HV := Lib.hid (midU_new s k hlt)
      by_cases hin : (s[k].toNat : Int) = 43
      · have i1 : ((s[k].toNat : Int) == 43) = true := beq_iff_eq.2 hin
        have HI := Lib.hid hin
        clear hin
        go_wp2
        go_roundw
        case rel =>
          refine ⟨k + 1, by omega, by go_num, fun j hj => ?_, fun j hj => by rw [World.frozen?_setCell]; exact HF.out j hj, HB.out.setCell (Nat.le_refl _) _⟩
          by_cases e : j = k
          · subst e; rw [HV.out, if_pos HI.out]; exact World.cell?_setCell_same' _ _ _ (by rw [c0]; rfl)
          · rw [midU_step s k j e, World.cell?_setCell_other _ _ _ _ (by simp <;> omega)]; exact HC.out j hj
        case measure => simp [intOf] <;> omega
      · have i1 : ((s[k].toNat : Int) == 43) = false := beq_eq_false_iff_ne.2 hin
        have HI := Lib.hid hin
        clear hin
        go_wp2
        go_roundw
        case rel =>
          refine ⟨k + 1, by omega, by go_num, fun j hj => ?_, HF.out, HB.out⟩
          by_cases e : j = k
          · subst e; rw [HV.out, if_neg HI.out, ← midU_at s j hj]; exact HC.out j hj
          · rw [midU_step s k j e]; exact HC.out j hj
        case measure => simp [intOf] <;> omega
    · have hge : decide (k < s.size) = false := decide_eq_false hlt
      have hback := run_convert_bytes_arg (P := Tryd.prog) wr 45 5 Tryd.underlying45 Tryd.underlying5 w.heap.size 0 s.size cap (ns (unq s.data.toList)) (by simp [ns, unq]) (fun i hi => by rw [Nat.zero_add, HC.out i hi]; unfold midU; rw [if_pos (by omega)]; congr 1; unfold ns; rw [List.getD_eq_getElem?_getD, List.getD_eq_getElem?_getD, List.getElem?_map]; cases h : (unq s.data.toList)[i]? <;> rfl) 9 Tryd.underlying9
      rw [strOf_ns] at hback
      go_wp2_with fail
      refine (H1.out _).mono ?_
      rintro e w2 ⟨rfl, hb2⟩
      go_wp2_with fail
      refine (H2.out _).mono ?_
      rintro e w3 ⟨rfl, hb3⟩
      have HB3 := Lib.hid ((HB.out.trans (hb2.mono HB.out.size)).trans (hb3.mono (HB.out.trans (hb2.mono HB.out.size)).size))
      clear hb2 hb3
      go_wp2
      go_ret
      exact ⟨rfl, HB3.out⟩
end Go.Proofs.YtbcbmmlpgdndpaaDoor.Q
