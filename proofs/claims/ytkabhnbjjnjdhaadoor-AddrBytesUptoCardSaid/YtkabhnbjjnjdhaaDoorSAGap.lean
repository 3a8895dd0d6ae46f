/- addr.gap: the longest run of noughts. -/
import Derived.Test.YtkabhnbjjnjdhaaDoorSQbase
import Derived.Test.YtkabhnbjjnjdhaaDoorSAdP
import Derived.WalkKit
import Derived.Deep.LoopGhost
import Derived.Lib.Hide
set_option linter.unusedSimpArgs false
set_option linter.unusedVariables false
namespace Go.Proofs.YtkabhnbjjnjdhaaDoor.Q
open Go.RowKit Go.Proofs.YtkabhnbjjnjdhaaDoorW.PrintWords Go.Proofs.YtkabhnbjjnjdhaaDoorW.PrintLast Go.Proofs.YtkabhnbjjnjdhaaDoorW.PrintMore Go.Proofs.YtkabhnbjjnjdhaaDoor.Ad
theorem gap_step {bs : List Bool} {kk z : Nat} (hk : kk < bs.length) (hz : zeros (bs.drop kk) = z) (g : Nat × Nat) : gapF kk (bs.drop kk) g = gapF (kk + 1) (bs.drop (kk + 1)) (if max (g.2 - g.1) 1 < z then (kk, kk + z) else g) := by
  rw [← hz, List.drop_eq_getElem_cons hk]; rfl
theorem gap_cell (w : World) (cs : Array Value) (t : TypeId) (xs : List Int) (h : cs.toList = xs.map (Value.int .u16)) (k : Nat) (hk : k < xs.length) : (w.alloc (.cells cs t)).cell? ⟨w.heap.size, k, none⟩ = some (.int .u16 (xs.getD k 0)) := by
  unfold World.cell?
  rw [show (w.alloc (.cells cs t)).heap = w.heap.push (.cells cs t) from rfl]
  have : cs[k]? = some (.int .u16 (xs.getD k 0)) := by
    rw [← Array.getElem?_toList, h, List.getElem?_map, List.getD_eq_getElem?_getD, List.getElem?_eq_getElem hk]; rfl
  simp [this]
set_option maxHeartbeats 4000000 in
theorem gap_calls (a0 a1 a2 a3 a4 a5 a6 a7 : Int) (w : World) :
    Calls Tryd.prog 35 #[.agg #[.int .u16 a0, .int .u16 a1, .int .u16 a2, .int .u16 a3, .int .u16 a4, .int .u16 a5, .int .u16 a6, .int .u16 a7]] w fun e w' => e = .returned (.tuple #[.int .i64 (gapB [a0 == 0, a1 == 0, a2 == 0, a3 == 0, a4 == 0, a5 == 0, a6 == 0, a7 == 0]).1, .int .i64 (gapB [a0 == 0, a1 == 0, a2 == 0, a3 == 0, a4 == 0, a5 == 0, a6 == 0, a7 == 0]).2]) ∧ Below w.heap.size w w' := by
  obtain ⟨xs, hxs⟩ : ∃ xs : List Int, xs = [a0, a1, a2, a3, a4, a5, a6, a7] := ⟨_, rfl⟩
  have hbs : [a0 == 0, a1 == 0, a2 == 0, a3 == 0, a4 == 0, a5 == 0, a6 == 0, a7 == 0] = xs.map (· == 0) := by rw [hxs]; rfl
  have hlen : xs.length = 8 := by rw [hxs]; rfl
  have hcell := gap_cell w #[.int .u16 a0, .int .u16 a1, .int .u16 a2, .int .u16 a3, .int .u16 a4, .int .u16 a5, .int .u16 a6, .int .u16 a7] 27 xs (by rw [hxs]; rfl)
  rw [hlen] at hcell
  rw [hbs]
  obtain ⟨bs, hb⟩ : ∃ bs, bs = xs.map (· == 0) := ⟨_, rfl⟩
  rw [← hb]
  have hbl : bs.length = 8 := by rw [hb, List.length_map]; exact hlen
  have hget : ∀ k, k < 8 → bs[k]? = some (xs.getD k 0 == 0) := fun k hk => by
    rw [hb, List.getElem?_map, List.getD_eq_getElem?_getD, List.getElem?_eq_getElem (by omega)]; rfl
  have HC := Lib.hid hcell
  have HG := Lib.hid hget
  have HL := Lib.hid hbl
  clear hcell hget hbl hlen hb hbs hxs
  obtain ⟨g, hg⟩ : ∃ g, g = gapB bs := ⟨_, rfl⟩
  rw [← hg]
  have HGB := Lib.hid hg
  clear hg
  have hW0 : Below w.heap.size w (w.alloc (.cells #[.int .u16 a0, .int .u16 a1, .int .u16 a2, .int .u16 a3, .int .u16 a4, .int .u16 a5, .int .u16 a6, .int .u16 a7] 27)) := (Below.refl _ w).alloc (Nat.le_refl _) _
  have HW0 := Lib.hid hW0
  clear hW0
  go_enter Tryd.func35, Tryd.ntmps35
  go_wp2
  obtain ⟨W, hW⟩ : ∃ W, W = w.alloc (.cells #[.int .u16 a0, .int .u16 a1, .int .u16 a2, .int .u16 a3, .int .u16 a4, .int .u16 a5, .int .u16 a6, .int .u16 a7] 27) := ⟨_, rfl⟩
  rw [← hW] at HC HW0 ⊢
  clear hW
  go_loopg [2, 3, 4, 5, 6] 8 (fun gg s2 s3 _ _ s6 wr => ∃ (kk f t : Nat), s6 = .int .i64 kk ∧ s2 = .int .i64 f ∧ s3 = .int .i64 t ∧ wr = W ∧ Hid (kk ≤ 8 ∧ 8 - kk ≤ gg ∧ f ≤ t ∧ t ≤ 8 ∧ g = gapF kk (bs.drop kk) (f, t)))
  case atStart => exact ⟨0, 0, 0, rfl, rfl, rfl, rfl, Lib.hid ⟨by omega, by omega, by omega, by omega, HGB.out⟩⟩
  case round =>
    obtain ⟨kk, f, t, rfl, rfl, rfl, rfl, HI⟩ := hrel
    obtain ⟨i1, i2, i3, i4, i5⟩ := HI.out
    clear i5 i2
    by_cases hlt : kk < 8
    · have hltz : (kk : Int) < 8 := by omega
      go_wp2
      go_loopg [5] 8 (fun gg s5 wr' => ∃ k : Nat, s5 = .int .i64 k ∧ wr' = wr ∧ Hid (kk ≤ k ∧ k ≤ 8 ∧ 8 - k ≤ gg ∧ zeros (bs.drop kk) = (k - kk) + zeros (bs.drop k)))
      case atStart => exact ⟨kk, rfl, rfl, Lib.hid ⟨by omega, by omega, by omega, by omega⟩⟩
      case round =>
        obtain ⟨k, rfl, rfl, HK⟩ := hrel
        obtain ⟨k1, k2, k3, k4⟩ := HK.out
        have hfin : (k = 8 ∨ (k < 8 ∧ (xs.getD k 0 == 0) = false)) → zeros (bs.drop kk) = k - kk := by
          rintro (rfl | ⟨h1, h2⟩)
          · rw [k4, List.drop_of_length_le (by rw [HL.out]; exact Nat.le_refl _)]; rfl
          · have hk := HG.out k h1
            obtain ⟨hk', hv⟩ := List.getElem?_eq_some_iff.1 hk
            rw [k4, List.drop_eq_getElem_cons hk', hv, h2]; rfl
        have HF := Lib.hid hfin
        clear hfin k4 k3
        by_cases hk8 : k < 8
        · have hk8z : (k : Int) < 8 := by omega
          have c0 := HC.out k hk8
          obtain ⟨x, hx⟩ : ∃ x, x = xs.getD k 0 := ⟨_, rfl⟩
          rw [← hx] at c0
          have HX := Lib.hid hx
          clear hx
          by_cases hz : x = 0
          · have hz2 : (x == 0) = true := by rw [hz]; rfl
            have HZ := Lib.hid hz
            clear hz
            go_wp2
            go_roundg (8 - (k + 1))
            case measure => have := HK.out; omega
            case rel =>
              refine ⟨k + 1, by go_num, rfl, Lib.hid ⟨by omega, by omega, by omega, ?_⟩⟩
              have hk := HG.out k hk8
              obtain ⟨hk', hv⟩ := List.getElem?_eq_some_iff.1 hk
              have h4 := HK.out.2.2.2
              rw [List.drop_eq_getElem_cons hk', hv, ← HX.out, HZ.out] at h4
              have : zeros (((0 : Int) == 0) :: bs.drop (k + 1)) = zeros (bs.drop (k + 1)) + 1 := if_pos rfl
              rw [this] at h4
              omega
          · have hz2 : (x == 0) = false := by rw [beq_eq_false_iff_ne]; exact hz
            have hzz := HF.out (.inr ⟨hk8, by rw [← HX.out]; exact hz2⟩)
            have HZZ := Lib.hid hzz
            clear hzz hz
            by_cases hm : max (t - f) 1 < k - kk
            · have hmz : max ((t : Int) - f) 1 < (k : Int) - kk := by omega
              go_wp2
              go_roundg (8 - (kk + 1))
              case measure => have := HI.out.2.1; omega
              case rel =>
                refine ⟨kk + 1, kk, k, by go_num, rfl, rfl, rfl, Lib.hid ⟨by omega, by omega, by omega, by omega, ?_⟩⟩
                rw [HI.out.2.2.2.2, gap_step (by rw [HL.out]; omega) HZZ.out, if_pos hm, show kk + (k - kk) = k from by omega]
            · have hmz : ¬ max ((t : Int) - f) 1 < (k : Int) - kk := by omega
              go_wp2
              go_roundg (8 - (kk + 1))
              case measure => have := HI.out.2.1; omega
              case rel =>
                refine ⟨kk + 1, f, t, by go_num, rfl, rfl, rfl, Lib.hid ⟨by omega, by omega, by omega, by omega, ?_⟩⟩
                rw [HI.out.2.2.2.2, gap_step (by rw [HL.out]; omega) HZZ.out, if_neg hm]
        · obtain rfl : k = 8 := by omega
          have hzz := HF.out (.inl rfl)
          have HZZ := Lib.hid hzz
          clear hzz
          by_cases hm : max (t - f) 1 < 8 - kk
          · have hmz : max ((t : Int) - f) 1 < (8 : Int) - kk := by omega
            go_wp2
            go_roundg (8 - (kk + 1))
            case measure => have := HI.out.2.1; omega
            case rel =>
              refine ⟨kk + 1, kk, 8, by go_num, rfl, rfl, rfl, Lib.hid ⟨by omega, by omega, by omega, by omega, ?_⟩⟩
              rw [HI.out.2.2.2.2, gap_step (by rw [HL.out]; omega) HZZ.out, if_pos hm, show kk + (8 - kk) = 8 from by omega]
          · have hmz : ¬ max ((t : Int) - f) 1 < (8 : Int) - kk := by omega
            go_wp2
            go_roundg (8 - (kk + 1))
            case measure => have := HI.out.2.1; omega
            case rel =>
              refine ⟨kk + 1, f, t, by go_num, rfl, rfl, rfl, Lib.hid ⟨by omega, by omega, by omega, by omega, ?_⟩⟩
              rw [HI.out.2.2.2.2, gap_step (by rw [HL.out]; omega) HZZ.out, if_neg hm]
    · obtain rfl : kk = 8 := by omega
      have hgg : g = (f, t) := by rw [HI.out.2.2.2.2, List.drop_of_length_le (by rw [HL.out]; exact Nat.le_refl _)]; rfl
      have HGG := Lib.hid hgg
      clear hgg
      go_wp2
      go_ret2
      rw [HGG.out]
      exact ⟨rfl, HW0.out⟩
end Go.Proofs.YtkabhnbjjnjdhaaDoor.Q
