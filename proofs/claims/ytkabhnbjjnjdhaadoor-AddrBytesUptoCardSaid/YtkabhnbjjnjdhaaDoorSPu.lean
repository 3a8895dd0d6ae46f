/- strconv.ParseUint at bases 8, 10 and 16: what it answers of every string. -/
import Derived.Test.YtkabhnbjjnjdhaaDoorSAdZ
import Derived.Shelf.Pu.Lays
import Derived.Shelf.Pu.Lower
import Derived.Shelf.Pu.ToError
import Derived.Shelf.Pu.ToErrorRange
import Derived.Shelf.Pu.ParseUintEmpty
import Derived.Lib.Strings
import Derived.Lib.Walk
import Derived.Lib.ConvBytes
import Derived.Lib.AtoiErrMem
import Derived.Lib.ParseIntBMem
import Derived.Lib.Hide
import Derived.Laws.Strings3
import Derived.Laws.Closers25
import Derived.Laws.Closers25b
import Derived.WalkKit
import Derived.BigCall
import Derived.BigGuard
set_option linter.unusedSimpArgs false
set_option linter.unusedVariables false
namespace Go.Proofs.YtkabhnbjjnjdhaaDoor.Q
open Go.Shelf Go.RowKit Go.Proofs.YtkabhnbjjnjdhaaDoor.Ad
variable {P : Program} {ρ : Ren}
def lowN (n : Nat) : Nat := if n / 32 % 2 = 1 then n else n + 32
theorem low_all : ∀ n : Fin 256, bits .or .u8 ((n.val : Nat) : Int) 32 = ((lowN n.val : Nat) : Int) := by decide +kernel
theorem low_bits {n : Nat} (h : n < 256) : bits .or .u8 (n : Int) 32 = ((lowN n : Nat) : Int) := low_all ⟨n, h⟩
theorem low_letter {n : Nat} (h : n < 256) (h1 : 97 ≤ lowN n) (h2 : lowN n ≤ 122) : (97 ≤ n ∧ n ≤ 122 ∧ lowN n = n) ∨ (65 ≤ n ∧ n ≤ 90 ∧ lowN n = n + 32) := by
  unfold lowN at h1 h2 ⊢
  split at h1 <;> rename_i q
  · rw [if_pos q] at h2 ⊢; exact .inl ⟨h1, h2, rfl⟩
  · rw [if_neg q] at h2 ⊢; exact .inr ⟨by omega, by omega, rfl⟩
theorem low_of {n : Nat} (h : n < 256) (h1 : (97 ≤ n ∧ n ≤ 122) ∨ (65 ≤ n ∧ n ≤ 90)) : 97 ≤ lowN n ∧ lowN n ≤ 122 := by
  unfold lowN; split <;> omega
theorem dg_digit {c : UInt8} (h1 : 48 ≤ c.toNat) (h2 : c.toNat ≤ 57) : dgN c = c.toNat - 48 := if_pos ⟨h1, h2⟩
theorem dg_letter {c : UInt8} (h1 : 97 ≤ lowN c.toNat) (h2 : lowN c.toNat ≤ 122) : dgN c = lowN c.toNat - 87 := by
  rcases low_letter c.toNat_lt h1 h2 with ⟨a, b, e⟩ | ⟨a, b, e⟩
  · unfold dgN; rw [if_neg (by omega), if_pos ⟨a, b⟩, e]
  · unfold dgN; rw [if_neg (by omega), if_neg (by omega), if_pos ⟨a, b⟩, e]; omega
theorem dg_none {c : UInt8} (h1 : ¬ (48 ≤ c.toNat ∧ c.toNat ≤ 57)) (h2 : ¬ (97 ≤ lowN c.toNat ∧ lowN c.toNat ≤ 122)) : dgN c = 99 := by
  unfold dgN
  have := c.toNat_lt
  rw [if_neg h1, if_neg (fun h => h2 (low_of this (.inl h))), if_neg (fun h => h2 (low_of this (.inr h)))]
set_option maxHeartbeats 32000000 in
set_option maxRecDepth 100000 in
theorem pu_8_64 (L : LaysPu.n16 P ρ) (t : ByteArray) (hne : t.size ≠ 0) (hmax : t.size ≤ 9223372036854775806) (w : World) :
    Calls P (ρ.f 16) #[.string t, .int .i64 8, .int .i64 64] w fun e w' => e = .returned (Lib.uintTupleM (ρ.t 34) 18446744073709551615 (puL 8 18446744073709551615 0 t.data.toList)) ∧ w' = Lib.bytesWorld w (ρ.t 5) t := by
  have mixed := L.mixed
  have t9 := L.t9; have a9 := L.a9; have z9 := L.z9; have v9 := L.v9
  have t3 := L.t3; have a3 := L.a3; have z3 := L.z3; have v3 := L.v3
  have t22 := L.t22; have a22 := L.a22; have z22 := L.z22; have v22 := L.v22
  have t24 := L.t24; have a24 := L.a24; have z24 := L.z24; have v24 := L.v24
  have t4 := L.t4; have a4 := L.a4; have z4 := L.z4; have v4 := L.v4
  have t34 := L.t34; have a34 := L.a34; have z34 := L.z34; have v34 := L.v34
  have t5 := L.t5; have a5 := L.a5; have z5 := L.z5; have v5 := L.v5
  have t36 := L.t36; have a36 := L.a36; have z36 := L.z36; have v36 := L.v36
  have t37 := L.t37; have a37 := L.a37; have z37 := L.z37; have v37 := L.v37
  have t0 := L.t0; have a0 := L.a0; have z0 := L.z0; have v0 := L.v0
  have e19 : ∀ args w, (callFunc (ρ.f 19) args).run P w = .ok (.enter (ρ.f 19) args) w := enters_of L.f19 (by kernel_rfl) rfl
  have hemp : t.toList.isEmpty = false := by
    rw [← decide_eq_emptyBytes]
    exact decide_eq_false (fun h => hne (by rw [h]; rfl))
  have hcv := Lib.run_convert_string_bytes (P := P) w (ρ.t 9) (ρ.t 37) (ρ.t 5) t (u := .string) L.t9 L.t37 L.t5
  have hB : ∀ j, j < t.size → (Lib.bytesWorld w (ρ.t 5) t).cell? ⟨w.heap.size, j, none⟩ = some (.int .u8 (t.data.toList.getD j 0).toNat) := fun j hj => Lib.bytesWorld_cell w (ρ.t 5) t j hj
  obtain ⟨W1, hW1⟩ : ∃ W1, W1 = Lib.bytesWorld w (ρ.t 5) t := ⟨_, rfl⟩
  rw [← hW1] at hcv hB ⊢
  clear hW1
  obtain ⟨bs, hL⟩ : ∃ bs, bs = t.data.toList := ⟨_, rfl⟩
  have hLn : bs.length = t.size := by rw [hL, Lib.size_eq]
  rw [← hL] at hB ⊢
  clear hL
  have hmv : IntKind.u64.wrap (IntKind.u64.wrap 18446744073709551616 - 1) = 18446744073709551615 := by
    rw [IntKind.wrap_u64, IntKind.wrap_u64]
    decide
  go_enter L.f16, BodyPu.n16_ntmps ρ
  go_wp2
  go_loop [12, 13, 101] (fun vu vn vi => ∃ (k acc : Nat) (a : Int), vu = .bool false ∧ vn = .int .u64 a ∧ vi = .int .i64 k ∧ k ≤ t.size ∧ Hid (a = (acc : Int) ∧ acc ≤ 18446744073709551615 ∧ puL 8 18446744073709551615 0 bs = puL 8 18446744073709551615 acc (bs.drop k)))
    (fun _ _ vi => t.size - (intOf vi).toNat)
  case atStart => exact ⟨0, 0, 0, rfl, rfl, rfl, by omega, rfl, by omega, rfl⟩
  case round =>
    obtain ⟨k, acc, a, rfl, rfl, rfl, hk, hh⟩ := hrel
    obtain ⟨ha, hacc, hdec⟩ := hh.out
    clear hh
    have a0 : 0 ≤ a := by omega
    have a1 : a ≤ 18446744073709551615 := by omega
    by_cases hkn : k < t.size
    · have hc := hB k hkn
      have hdrop : bs.drop k = bs[k]'(by omega) :: bs.drop (k + 1) := List.drop_eq_getElem_cons (by omega)
      have hget : bs.getD k 0 = bs[k]'(by omega) := by simp [List.getD, List.getElem?_eq_getElem (show k < bs.length by omega)]
      rw [hdrop] at hdec
      rw [hget] at hc
      generalize bs[k]'(by omega) = c at hc hdec
      have hc256 : c.toNat < 256 := c.toNat_lt
      clear hB hdrop hget
      have hdgl : dgN c = c.toNat - 48 ∨ True := .inr trivial
      by_cases hdig : 48 ≤ c.toNat ∧ c.toNat ≤ 57
      · obtain ⟨hd0, hd1⟩ := hdig
        have hdg := dg_digit hd0 hd1
        clear hdgl
        by_cases hb : c.toNat - 48 < 8
        · have ib : (c.toNat : Int) - 48 < 8 := by omega
          have hF0 : puL 8 18446744073709551615 acc (c :: bs.drop (k + 1)) = if 18446744073709551615 < acc * 8 + dgN c then .range else puL 8 18446744073709551615 (acc * 8 + dgN c) (bs.drop (k + 1)) := by rw [puL, if_pos (by omega)]
          rw [hdg] at hF0
          by_cases hov : 18446744073709551615 < acc * 8 + (c.toNat - 48)
          · rw [if_pos hov] at hF0
            rw [hF0] at hdec
            by_cases hcut : 2305843009213693952 ≤ acc
            · have icut : 2305843009213693952 ≤ a := by omega
              clear hcut hacc hF0 ha hdg hb hov
              go_wp2
              all_goals go_ret2
              all_goals first | exact ⟨rfl, rfl⟩ | exact ⟨by rw [hdec]; rfl, rfl⟩
            · exfalso; omega
          · rw [if_neg hov] at hF0
            have HN : Hid (a * 8 + ((c.toNat : Int) - 48) = ((acc * 8 + (c.toNat - 48) : Nat) : Int) ∧ acc * 8 + (c.toNat - 48) ≤ 18446744073709551615 ∧ puL 8 18446744073709551615 0 bs = puL 8 18446744073709551615 (acc * 8 + (c.toNat - 48)) (bs.drop (k + 1))) := Lib.hid ⟨by omega, by omega, hdec.trans hF0⟩
            have icut : a < 2305843009213693952 := by omega
            have iov : a * 8 + ((c.toNat : Int) - 48) ≤ 18446744073709551615 := by omega
            clear hacc hF0 hov hdec ha hdg hb
            go_wp2
            all_goals exact ⟨⟨k + 1, acc * 8 + (c.toNat - 48), a * 8 + ((c.toNat : Int) - 48), rfl, (by first | rfl | (congr 1; omega)), (by first | rfl | (congr 1; omega)), by omega, HN⟩, by simp [intOf]; omega⟩
        · have hF : puL 8 18446744073709551615 acc (c :: bs.drop (k + 1)) = .syntax := by rw [puL, if_neg (by omega)]
          rw [hF] at hdec
          have ib : 8 ≤ (c.toNat : Int) - 48 := by omega
          clear hacc hF ha hdg hb
          go_wp2
          go_ret2
          first | exact ⟨rfl, rfl⟩ | exact ⟨by rw [hdec]; rfl, rfl⟩
      · have hlow := low_bits hc256
        clear hdgl
        by_cases hlet : 97 ≤ lowN c.toNat ∧ lowN c.toNat ≤ 122
        · obtain ⟨hl0, hl1⟩ := hlet
          have hdg := dg_letter hl0 hl1
          have hun : c.toNat ≠ 95 := by
            rcases low_letter hc256 hl0 hl1 with ⟨a, b, _⟩ | ⟨a, b, _⟩ <;> omega
          generalize lowN c.toNat = lo at *
          by_cases hb : lo - 87 < 8
          · skip
            exfalso; omega
          · have hF : puL 8 18446744073709551615 acc (c :: bs.drop (k + 1)) = .syntax := by rw [puL, if_neg (by omega)]
            rw [hF] at hdec
            have ib : 8 ≤ (lo : Int) - 87 := by omega
            clear hacc hF ha hdg hb
            go_wp2_with (go_at_fn (ρ.f 19); refine (AnyPu.internal_strconv_lower { L with } _ _).mono ?_; rintro e w' ⟨he, rfl⟩; rw [hlow] at he; subst he)
            all_goals go_ret2
            all_goals first | exact ⟨rfl, rfl⟩ | exact ⟨by rw [hdec]; rfl, rfl⟩
        · have hdg := dg_none hdig hlet
          have hF : puL 8 18446744073709551615 acc (c :: bs.drop (k + 1)) = .syntax := by rw [puL, if_neg (by omega)]
          rw [hF] at hdec
          have hl256 : lowN c.toNat < 300 := by unfold lowN; split <;> omega
          clear hacc hF ha hdg
          by_cases h95 : c.toNat = 95
          · have hlow95 : bits .or .u8 95 32 = 127 := by decide
            rw [h95] at hc
            clear hlow hl256 hlet hdig hc256 h95
            go_wp2_with (go_at_fn (ρ.f 19); refine (AnyPu.internal_strconv_lower { L with } _ _).mono ?_; rintro e w' ⟨he, rfl⟩; rw [hlow95] at he; subst he)
            all_goals go_ret2
            all_goals first | exact ⟨rfl, rfl⟩ | exact ⟨by rw [hdec]; rfl, rfl⟩
          · generalize lowN c.toNat = lo at *
            go_wp2_with (go_at_fn (ρ.f 19); refine (AnyPu.internal_strconv_lower { L with } _ _).mono ?_; rintro e w' ⟨he, rfl⟩; rw [hlow] at he; subst he)
            all_goals go_ret2
            all_goals first | exact ⟨rfl, rfl⟩ | exact ⟨by rw [hdec]; rfl, rfl⟩
    · have hkk : k = t.size := by omega
      subst hkk
      have hF : puL 8 18446744073709551615 acc (bs.drop t.size) = .ok acc := by rw [List.drop_eq_nil_of_le (by omega)]; rfl
      rw [hF] at hdec
      subst ha
      clear hacc hF a0 a1
      go_wp2
      go_ret2
      first | exact ⟨rfl, rfl⟩ | exact ⟨by rw [hdec]; rfl, rfl⟩
set_option maxHeartbeats 32000000 in
set_option maxRecDepth 100000 in
theorem pu_10_64 (L : LaysPu.n16 P ρ) (t : ByteArray) (hne : t.size ≠ 0) (hmax : t.size ≤ 9223372036854775806) (w : World) :
    Calls P (ρ.f 16) #[.string t, .int .i64 10, .int .i64 64] w fun e w' => e = .returned (Lib.uintTupleM (ρ.t 34) 18446744073709551615 (puL 10 18446744073709551615 0 t.data.toList)) ∧ w' = Lib.bytesWorld w (ρ.t 5) t := by
  have mixed := L.mixed
  have t9 := L.t9; have a9 := L.a9; have z9 := L.z9; have v9 := L.v9
  have t3 := L.t3; have a3 := L.a3; have z3 := L.z3; have v3 := L.v3
  have t22 := L.t22; have a22 := L.a22; have z22 := L.z22; have v22 := L.v22
  have t24 := L.t24; have a24 := L.a24; have z24 := L.z24; have v24 := L.v24
  have t4 := L.t4; have a4 := L.a4; have z4 := L.z4; have v4 := L.v4
  have t34 := L.t34; have a34 := L.a34; have z34 := L.z34; have v34 := L.v34
  have t5 := L.t5; have a5 := L.a5; have z5 := L.z5; have v5 := L.v5
  have t36 := L.t36; have a36 := L.a36; have z36 := L.z36; have v36 := L.v36
  have t37 := L.t37; have a37 := L.a37; have z37 := L.z37; have v37 := L.v37
  have t0 := L.t0; have a0 := L.a0; have z0 := L.z0; have v0 := L.v0
  have e19 : ∀ args w, (callFunc (ρ.f 19) args).run P w = .ok (.enter (ρ.f 19) args) w := enters_of L.f19 (by kernel_rfl) rfl
  have hemp : t.toList.isEmpty = false := by
    rw [← decide_eq_emptyBytes]
    exact decide_eq_false (fun h => hne (by rw [h]; rfl))
  have hcv := Lib.run_convert_string_bytes (P := P) w (ρ.t 9) (ρ.t 37) (ρ.t 5) t (u := .string) L.t9 L.t37 L.t5
  have hB : ∀ j, j < t.size → (Lib.bytesWorld w (ρ.t 5) t).cell? ⟨w.heap.size, j, none⟩ = some (.int .u8 (t.data.toList.getD j 0).toNat) := fun j hj => Lib.bytesWorld_cell w (ρ.t 5) t j hj
  obtain ⟨W1, hW1⟩ : ∃ W1, W1 = Lib.bytesWorld w (ρ.t 5) t := ⟨_, rfl⟩
  rw [← hW1] at hcv hB ⊢
  clear hW1
  obtain ⟨bs, hL⟩ : ∃ bs, bs = t.data.toList := ⟨_, rfl⟩
  have hLn : bs.length = t.size := by rw [hL, Lib.size_eq]
  rw [← hL] at hB ⊢
  clear hL
  have hmv : IntKind.u64.wrap (IntKind.u64.wrap 18446744073709551616 - 1) = 18446744073709551615 := by
    rw [IntKind.wrap_u64, IntKind.wrap_u64]
    decide
  go_enter L.f16, BodyPu.n16_ntmps ρ
  go_wp2
  go_loop [12, 13, 101] (fun vu vn vi => ∃ (k acc : Nat) (a : Int), vu = .bool false ∧ vn = .int .u64 a ∧ vi = .int .i64 k ∧ k ≤ t.size ∧ Hid (a = (acc : Int) ∧ acc ≤ 18446744073709551615 ∧ puL 10 18446744073709551615 0 bs = puL 10 18446744073709551615 acc (bs.drop k)))
    (fun _ _ vi => t.size - (intOf vi).toNat)
  case atStart => exact ⟨0, 0, 0, rfl, rfl, rfl, by omega, rfl, by omega, rfl⟩
  case round =>
    obtain ⟨k, acc, a, rfl, rfl, rfl, hk, hh⟩ := hrel
    obtain ⟨ha, hacc, hdec⟩ := hh.out
    clear hh
    have a0 : 0 ≤ a := by omega
    have a1 : a ≤ 18446744073709551615 := by omega
    by_cases hkn : k < t.size
    · have hc := hB k hkn
      have hdrop : bs.drop k = bs[k]'(by omega) :: bs.drop (k + 1) := List.drop_eq_getElem_cons (by omega)
      have hget : bs.getD k 0 = bs[k]'(by omega) := by simp [List.getD, List.getElem?_eq_getElem (show k < bs.length by omega)]
      rw [hdrop] at hdec
      rw [hget] at hc
      generalize bs[k]'(by omega) = c at hc hdec
      have hc256 : c.toNat < 256 := c.toNat_lt
      clear hB hdrop hget
      have hdgl : dgN c = c.toNat - 48 ∨ True := .inr trivial
      by_cases hdig : 48 ≤ c.toNat ∧ c.toNat ≤ 57
      · obtain ⟨hd0, hd1⟩ := hdig
        have hdg := dg_digit hd0 hd1
        clear hdgl
        by_cases hb : c.toNat - 48 < 10
        · have ib : (c.toNat : Int) - 48 < 10 := by omega
          have hF0 : puL 10 18446744073709551615 acc (c :: bs.drop (k + 1)) = if 18446744073709551615 < acc * 10 + dgN c then .range else puL 10 18446744073709551615 (acc * 10 + dgN c) (bs.drop (k + 1)) := by rw [puL, if_pos (by omega)]
          rw [hdg] at hF0
          by_cases hov : 18446744073709551615 < acc * 10 + (c.toNat - 48)
          · rw [if_pos hov] at hF0
            rw [hF0] at hdec
            by_cases hcut : 1844674407370955162 ≤ acc
            · have icut : 1844674407370955162 ≤ a := by omega
              clear hcut hacc hF0 ha hdg hb hov
              go_wp2
              all_goals go_ret2
              all_goals first | exact ⟨rfl, rfl⟩ | exact ⟨by rw [hdec]; rfl, rfl⟩
            · have icut : a < 1844674407370955162 := by omega
              have iov : 18446744073709551615 < a * 10 + ((c.toNat : Int) - 48) := by omega
              have hwr : IntKind.u64.wrap (a * 10 + ((c.toNat : Int) - 48)) = a * 10 + ((c.toNat : Int) - 48) - 18446744073709551616 := by
                rw [IntKind.wrap_u64]
                omega
              clear hcut hacc hF0 ha hdg hb hov
              go_wp2
              all_goals go_ret2
              all_goals first | exact ⟨rfl, rfl⟩ | exact ⟨by rw [hdec]; rfl, rfl⟩
          · rw [if_neg hov] at hF0
            have HN : Hid (a * 10 + ((c.toNat : Int) - 48) = ((acc * 10 + (c.toNat - 48) : Nat) : Int) ∧ acc * 10 + (c.toNat - 48) ≤ 18446744073709551615 ∧ puL 10 18446744073709551615 0 bs = puL 10 18446744073709551615 (acc * 10 + (c.toNat - 48)) (bs.drop (k + 1))) := Lib.hid ⟨by omega, by omega, hdec.trans hF0⟩
            have icut : a < 1844674407370955162 := by omega
            have iov : a * 10 + ((c.toNat : Int) - 48) ≤ 18446744073709551615 := by omega
            clear hacc hF0 hov hdec ha hdg hb
            go_wp2
            all_goals exact ⟨⟨k + 1, acc * 10 + (c.toNat - 48), a * 10 + ((c.toNat : Int) - 48), rfl, (by first | rfl | (congr 1; omega)), (by first | rfl | (congr 1; omega)), by omega, HN⟩, by simp [intOf]; omega⟩
        · exfalso; omega
      · have hlow := low_bits hc256
        clear hdgl
        by_cases hlet : 97 ≤ lowN c.toNat ∧ lowN c.toNat ≤ 122
        · obtain ⟨hl0, hl1⟩ := hlet
          have hdg := dg_letter hl0 hl1
          have hun : c.toNat ≠ 95 := by
            rcases low_letter hc256 hl0 hl1 with ⟨a, b, _⟩ | ⟨a, b, _⟩ <;> omega
          generalize lowN c.toNat = lo at *
          by_cases hb : lo - 87 < 10
          · skip
            exfalso; omega
          · have hF : puL 10 18446744073709551615 acc (c :: bs.drop (k + 1)) = .syntax := by rw [puL, if_neg (by omega)]
            rw [hF] at hdec
            have ib : 10 ≤ (lo : Int) - 87 := by omega
            clear hacc hF ha hdg hb
            go_wp2_with (go_at_fn (ρ.f 19); refine (AnyPu.internal_strconv_lower { L with } _ _).mono ?_; rintro e w' ⟨he, rfl⟩; rw [hlow] at he; subst he)
            all_goals go_ret2
            all_goals first | exact ⟨rfl, rfl⟩ | exact ⟨by rw [hdec]; rfl, rfl⟩
        · have hdg := dg_none hdig hlet
          have hF : puL 10 18446744073709551615 acc (c :: bs.drop (k + 1)) = .syntax := by rw [puL, if_neg (by omega)]
          rw [hF] at hdec
          have hl256 : lowN c.toNat < 300 := by unfold lowN; split <;> omega
          clear hacc hF ha hdg
          by_cases h95 : c.toNat = 95
          · have hlow95 : bits .or .u8 95 32 = 127 := by decide
            rw [h95] at hc
            clear hlow hl256 hlet hdig hc256 h95
            go_wp2_with (go_at_fn (ρ.f 19); refine (AnyPu.internal_strconv_lower { L with } _ _).mono ?_; rintro e w' ⟨he, rfl⟩; rw [hlow95] at he; subst he)
            all_goals go_ret2
            all_goals first | exact ⟨rfl, rfl⟩ | exact ⟨by rw [hdec]; rfl, rfl⟩
          · generalize lowN c.toNat = lo at *
            go_wp2_with (go_at_fn (ρ.f 19); refine (AnyPu.internal_strconv_lower { L with } _ _).mono ?_; rintro e w' ⟨he, rfl⟩; rw [hlow] at he; subst he)
            all_goals go_ret2
            all_goals first | exact ⟨rfl, rfl⟩ | exact ⟨by rw [hdec]; rfl, rfl⟩
    · have hkk : k = t.size := by omega
      subst hkk
      have hF : puL 10 18446744073709551615 acc (bs.drop t.size) = .ok acc := by rw [List.drop_eq_nil_of_le (by omega)]; rfl
      rw [hF] at hdec
      subst ha
      clear hacc hF a0 a1
      go_wp2
      go_ret2
      first | exact ⟨rfl, rfl⟩ | exact ⟨by rw [hdec]; rfl, rfl⟩
set_option maxHeartbeats 32000000 in
set_option maxRecDepth 100000 in
theorem pu_16_64 (L : LaysPu.n16 P ρ) (t : ByteArray) (hne : t.size ≠ 0) (hmax : t.size ≤ 9223372036854775806) (w : World) :
    Calls P (ρ.f 16) #[.string t, .int .i64 16, .int .i64 64] w fun e w' => e = .returned (Lib.uintTupleM (ρ.t 34) 18446744073709551615 (puL 16 18446744073709551615 0 t.data.toList)) ∧ w' = Lib.bytesWorld w (ρ.t 5) t := by
  have mixed := L.mixed
  have t9 := L.t9; have a9 := L.a9; have z9 := L.z9; have v9 := L.v9
  have t3 := L.t3; have a3 := L.a3; have z3 := L.z3; have v3 := L.v3
  have t22 := L.t22; have a22 := L.a22; have z22 := L.z22; have v22 := L.v22
  have t24 := L.t24; have a24 := L.a24; have z24 := L.z24; have v24 := L.v24
  have t4 := L.t4; have a4 := L.a4; have z4 := L.z4; have v4 := L.v4
  have t34 := L.t34; have a34 := L.a34; have z34 := L.z34; have v34 := L.v34
  have t5 := L.t5; have a5 := L.a5; have z5 := L.z5; have v5 := L.v5
  have t36 := L.t36; have a36 := L.a36; have z36 := L.z36; have v36 := L.v36
  have t37 := L.t37; have a37 := L.a37; have z37 := L.z37; have v37 := L.v37
  have t0 := L.t0; have a0 := L.a0; have z0 := L.z0; have v0 := L.v0
  have e19 : ∀ args w, (callFunc (ρ.f 19) args).run P w = .ok (.enter (ρ.f 19) args) w := enters_of L.f19 (by kernel_rfl) rfl
  have hemp : t.toList.isEmpty = false := by
    rw [← decide_eq_emptyBytes]
    exact decide_eq_false (fun h => hne (by rw [h]; rfl))
  have hcv := Lib.run_convert_string_bytes (P := P) w (ρ.t 9) (ρ.t 37) (ρ.t 5) t (u := .string) L.t9 L.t37 L.t5
  have hB : ∀ j, j < t.size → (Lib.bytesWorld w (ρ.t 5) t).cell? ⟨w.heap.size, j, none⟩ = some (.int .u8 (t.data.toList.getD j 0).toNat) := fun j hj => Lib.bytesWorld_cell w (ρ.t 5) t j hj
  obtain ⟨W1, hW1⟩ : ∃ W1, W1 = Lib.bytesWorld w (ρ.t 5) t := ⟨_, rfl⟩
  rw [← hW1] at hcv hB ⊢
  clear hW1
  obtain ⟨bs, hL⟩ : ∃ bs, bs = t.data.toList := ⟨_, rfl⟩
  have hLn : bs.length = t.size := by rw [hL, Lib.size_eq]
  rw [← hL] at hB ⊢
  clear hL
  have hmv : IntKind.u64.wrap (IntKind.u64.wrap 18446744073709551616 - 1) = 18446744073709551615 := by
    rw [IntKind.wrap_u64, IntKind.wrap_u64]
    decide
  go_enter L.f16, BodyPu.n16_ntmps ρ
  go_wp2
  go_loop [12, 13, 101] (fun vu vn vi => ∃ (k acc : Nat) (a : Int), vu = .bool false ∧ vn = .int .u64 a ∧ vi = .int .i64 k ∧ k ≤ t.size ∧ Hid (a = (acc : Int) ∧ acc ≤ 18446744073709551615 ∧ puL 16 18446744073709551615 0 bs = puL 16 18446744073709551615 acc (bs.drop k)))
    (fun _ _ vi => t.size - (intOf vi).toNat)
  case atStart => exact ⟨0, 0, 0, rfl, rfl, rfl, by omega, rfl, by omega, rfl⟩
  case round =>
    obtain ⟨k, acc, a, rfl, rfl, rfl, hk, hh⟩ := hrel
    obtain ⟨ha, hacc, hdec⟩ := hh.out
    clear hh
    have a0 : 0 ≤ a := by omega
    have a1 : a ≤ 18446744073709551615 := by omega
    by_cases hkn : k < t.size
    · have hc := hB k hkn
      have hdrop : bs.drop k = bs[k]'(by omega) :: bs.drop (k + 1) := List.drop_eq_getElem_cons (by omega)
      have hget : bs.getD k 0 = bs[k]'(by omega) := by simp [List.getD, List.getElem?_eq_getElem (show k < bs.length by omega)]
      rw [hdrop] at hdec
      rw [hget] at hc
      generalize bs[k]'(by omega) = c at hc hdec
      have hc256 : c.toNat < 256 := c.toNat_lt
      clear hB hdrop hget
      have hdgl : dgN c = c.toNat - 48 ∨ True := .inr trivial
      by_cases hdig : 48 ≤ c.toNat ∧ c.toNat ≤ 57
      · obtain ⟨hd0, hd1⟩ := hdig
        have hdg := dg_digit hd0 hd1
        clear hdgl
        by_cases hb : c.toNat - 48 < 16
        · have ib : (c.toNat : Int) - 48 < 16 := by omega
          have hF0 : puL 16 18446744073709551615 acc (c :: bs.drop (k + 1)) = if 18446744073709551615 < acc * 16 + dgN c then .range else puL 16 18446744073709551615 (acc * 16 + dgN c) (bs.drop (k + 1)) := by rw [puL, if_pos (by omega)]
          rw [hdg] at hF0
          by_cases hov : 18446744073709551615 < acc * 16 + (c.toNat - 48)
          · rw [if_pos hov] at hF0
            rw [hF0] at hdec
            by_cases hcut : 1152921504606846976 ≤ acc
            · have icut : 1152921504606846976 ≤ a := by omega
              clear hcut hacc hF0 ha hdg hb hov
              go_wp2
              all_goals go_ret2
              all_goals first | exact ⟨rfl, rfl⟩ | exact ⟨by rw [hdec]; rfl, rfl⟩
            · exfalso; omega
          · rw [if_neg hov] at hF0
            have HN : Hid (a * 16 + ((c.toNat : Int) - 48) = ((acc * 16 + (c.toNat - 48) : Nat) : Int) ∧ acc * 16 + (c.toNat - 48) ≤ 18446744073709551615 ∧ puL 16 18446744073709551615 0 bs = puL 16 18446744073709551615 (acc * 16 + (c.toNat - 48)) (bs.drop (k + 1))) := Lib.hid ⟨by omega, by omega, hdec.trans hF0⟩
            have icut : a < 1152921504606846976 := by omega
            have iov : a * 16 + ((c.toNat : Int) - 48) ≤ 18446744073709551615 := by omega
            clear hacc hF0 hov hdec ha hdg hb
            go_wp2
            all_goals exact ⟨⟨k + 1, acc * 16 + (c.toNat - 48), a * 16 + ((c.toNat : Int) - 48), rfl, (by first | rfl | (congr 1; omega)), (by first | rfl | (congr 1; omega)), by omega, HN⟩, by simp [intOf]; omega⟩
        · exfalso; omega
      · have hlow := low_bits hc256
        clear hdgl
        by_cases hlet : 97 ≤ lowN c.toNat ∧ lowN c.toNat ≤ 122
        · obtain ⟨hl0, hl1⟩ := hlet
          have hdg := dg_letter hl0 hl1
          have hun : c.toNat ≠ 95 := by
            rcases low_letter hc256 hl0 hl1 with ⟨a, b, _⟩ | ⟨a, b, _⟩ <;> omega
          generalize lowN c.toNat = lo at *
          by_cases hb : lo - 87 < 16
          · have ib : (lo : Int) - 87 < 16 := by omega
            have hF0 : puL 16 18446744073709551615 acc (c :: bs.drop (k + 1)) = if 18446744073709551615 < acc * 16 + dgN c then .range else puL 16 18446744073709551615 (acc * 16 + dgN c) (bs.drop (k + 1)) := by rw [puL, if_pos (by omega)]
            rw [hdg] at hF0
            by_cases hov : 18446744073709551615 < acc * 16 + (lo - 87)
            · rw [if_pos hov] at hF0
              rw [hF0] at hdec
              by_cases hcut : 1152921504606846976 ≤ acc
              · have icut : 1152921504606846976 ≤ a := by omega
                clear hcut hacc hF0 ha hdg hb hov
                go_wp2_with (go_at_fn (ρ.f 19); refine (AnyPu.internal_strconv_lower { L with } _ _).mono ?_; rintro e w' ⟨he, rfl⟩; rw [hlow] at he; subst he)
                all_goals go_ret2
                all_goals first | exact ⟨rfl, rfl⟩ | exact ⟨by rw [hdec]; rfl, rfl⟩
              · exfalso; omega
            · rw [if_neg hov] at hF0
              have HN : Hid (a * 16 + ((lo : Int) - 87) = ((acc * 16 + (lo - 87) : Nat) : Int) ∧ acc * 16 + (lo - 87) ≤ 18446744073709551615 ∧ puL 16 18446744073709551615 0 bs = puL 16 18446744073709551615 (acc * 16 + (lo - 87)) (bs.drop (k + 1))) := Lib.hid ⟨by omega, by omega, hdec.trans hF0⟩
              have icut : a < 1152921504606846976 := by omega
              have iov : a * 16 + ((lo : Int) - 87) ≤ 18446744073709551615 := by omega
              clear hacc hF0 hov hdec ha hdg hb
              go_wp2_with (go_at_fn (ρ.f 19); refine (AnyPu.internal_strconv_lower { L with } _ _).mono ?_; rintro e w' ⟨he, rfl⟩; rw [hlow] at he; subst he)
              all_goals exact ⟨⟨k + 1, acc * 16 + (lo - 87), a * 16 + ((lo : Int) - 87), rfl, (by first | rfl | (congr 1; omega)), (by first | rfl | (congr 1; omega)), by omega, HN⟩, by simp [intOf]; omega⟩
          · have hF : puL 16 18446744073709551615 acc (c :: bs.drop (k + 1)) = .syntax := by rw [puL, if_neg (by omega)]
            rw [hF] at hdec
            have ib : 16 ≤ (lo : Int) - 87 := by omega
            clear hacc hF ha hdg hb
            go_wp2_with (go_at_fn (ρ.f 19); refine (AnyPu.internal_strconv_lower { L with } _ _).mono ?_; rintro e w' ⟨he, rfl⟩; rw [hlow] at he; subst he)
            all_goals go_ret2
            all_goals first | exact ⟨rfl, rfl⟩ | exact ⟨by rw [hdec]; rfl, rfl⟩
        · have hdg := dg_none hdig hlet
          have hF : puL 16 18446744073709551615 acc (c :: bs.drop (k + 1)) = .syntax := by rw [puL, if_neg (by omega)]
          rw [hF] at hdec
          have hl256 : lowN c.toNat < 300 := by unfold lowN; split <;> omega
          clear hacc hF ha hdg
          by_cases h95 : c.toNat = 95
          · have hlow95 : bits .or .u8 95 32 = 127 := by decide
            rw [h95] at hc
            clear hlow hl256 hlet hdig hc256 h95
            go_wp2_with (go_at_fn (ρ.f 19); refine (AnyPu.internal_strconv_lower { L with } _ _).mono ?_; rintro e w' ⟨he, rfl⟩; rw [hlow95] at he; subst he)
            all_goals go_ret2
            all_goals first | exact ⟨rfl, rfl⟩ | exact ⟨by rw [hdec]; rfl, rfl⟩
          · generalize lowN c.toNat = lo at *
            go_wp2_with (go_at_fn (ρ.f 19); refine (AnyPu.internal_strconv_lower { L with } _ _).mono ?_; rintro e w' ⟨he, rfl⟩; rw [hlow] at he; subst he)
            all_goals go_ret2
            all_goals first | exact ⟨rfl, rfl⟩ | exact ⟨by rw [hdec]; rfl, rfl⟩
    · have hkk : k = t.size := by omega
      subst hkk
      have hF : puL 16 18446744073709551615 acc (bs.drop t.size) = .ok acc := by rw [List.drop_eq_nil_of_le (by omega)]; rfl
      rw [hF] at hdec
      subst ha
      clear hacc hF a0 a1
      go_wp2
      go_ret2
      first | exact ⟨rfl, rfl⟩ | exact ⟨by rw [hdec]; rfl, rfl⟩
set_option maxHeartbeats 32000000 in
set_option maxRecDepth 100000 in
theorem pu_16_16 (L : LaysPu.n16 P ρ) (t : ByteArray) (hne : t.size ≠ 0) (hmax : t.size ≤ 9223372036854775806) (w : World) :
    Calls P (ρ.f 16) #[.string t, .int .i64 16, .int .i64 16] w fun e w' => e = .returned (Lib.uintTupleM (ρ.t 34) 65535 (puL 16 65535 0 t.data.toList)) ∧ w' = Lib.bytesWorld w (ρ.t 5) t := by
  have mixed := L.mixed
  have t9 := L.t9; have a9 := L.a9; have z9 := L.z9; have v9 := L.v9
  have t3 := L.t3; have a3 := L.a3; have z3 := L.z3; have v3 := L.v3
  have t22 := L.t22; have a22 := L.a22; have z22 := L.z22; have v22 := L.v22
  have t24 := L.t24; have a24 := L.a24; have z24 := L.z24; have v24 := L.v24
  have t4 := L.t4; have a4 := L.a4; have z4 := L.z4; have v4 := L.v4
  have t34 := L.t34; have a34 := L.a34; have z34 := L.z34; have v34 := L.v34
  have t5 := L.t5; have a5 := L.a5; have z5 := L.z5; have v5 := L.v5
  have t36 := L.t36; have a36 := L.a36; have z36 := L.z36; have v36 := L.v36
  have t37 := L.t37; have a37 := L.a37; have z37 := L.z37; have v37 := L.v37
  have t0 := L.t0; have a0 := L.a0; have z0 := L.z0; have v0 := L.v0
  have e19 : ∀ args w, (callFunc (ρ.f 19) args).run P w = .ok (.enter (ρ.f 19) args) w := enters_of L.f19 (by kernel_rfl) rfl
  have hemp : t.toList.isEmpty = false := by
    rw [← decide_eq_emptyBytes]
    exact decide_eq_false (fun h => hne (by rw [h]; rfl))
  have hcv := Lib.run_convert_string_bytes (P := P) w (ρ.t 9) (ρ.t 37) (ρ.t 5) t (u := .string) L.t9 L.t37 L.t5
  have hB : ∀ j, j < t.size → (Lib.bytesWorld w (ρ.t 5) t).cell? ⟨w.heap.size, j, none⟩ = some (.int .u8 (t.data.toList.getD j 0).toNat) := fun j hj => Lib.bytesWorld_cell w (ρ.t 5) t j hj
  obtain ⟨W1, hW1⟩ : ∃ W1, W1 = Lib.bytesWorld w (ρ.t 5) t := ⟨_, rfl⟩
  rw [← hW1] at hcv hB ⊢
  clear hW1
  obtain ⟨bs, hL⟩ : ∃ bs, bs = t.data.toList := ⟨_, rfl⟩
  have hLn : bs.length = t.size := by rw [hL, Lib.size_eq]
  rw [← hL] at hB ⊢
  clear hL
  have hmv : IntKind.u64.wrap (IntKind.u64.wrap 65536 - 1) = 65535 := by
    rw [IntKind.wrap_u64, IntKind.wrap_u64]
    decide
  go_enter L.f16, BodyPu.n16_ntmps ρ
  go_wp2
  go_loop [12, 13, 101] (fun vu vn vi => ∃ (k acc : Nat) (a : Int), vu = .bool false ∧ vn = .int .u64 a ∧ vi = .int .i64 k ∧ k ≤ t.size ∧ Hid (a = (acc : Int) ∧ acc ≤ 65535 ∧ puL 16 65535 0 bs = puL 16 65535 acc (bs.drop k)))
    (fun _ _ vi => t.size - (intOf vi).toNat)
  case atStart => exact ⟨0, 0, 0, rfl, rfl, rfl, by omega, rfl, by omega, rfl⟩
  case round =>
    obtain ⟨k, acc, a, rfl, rfl, rfl, hk, hh⟩ := hrel
    obtain ⟨ha, hacc, hdec⟩ := hh.out
    clear hh
    have a0 : 0 ≤ a := by omega
    have a1 : a ≤ 65535 := by omega
    by_cases hkn : k < t.size
    · have hc := hB k hkn
      have hdrop : bs.drop k = bs[k]'(by omega) :: bs.drop (k + 1) := List.drop_eq_getElem_cons (by omega)
      have hget : bs.getD k 0 = bs[k]'(by omega) := by simp [List.getD, List.getElem?_eq_getElem (show k < bs.length by omega)]
      rw [hdrop] at hdec
      rw [hget] at hc
      generalize bs[k]'(by omega) = c at hc hdec
      have hc256 : c.toNat < 256 := c.toNat_lt
      clear hB hdrop hget
      have hdgl : dgN c = c.toNat - 48 ∨ True := .inr trivial
      by_cases hdig : 48 ≤ c.toNat ∧ c.toNat ≤ 57
      · obtain ⟨hd0, hd1⟩ := hdig
        have hdg := dg_digit hd0 hd1
        clear hdgl
        by_cases hb : c.toNat - 48 < 16
        · have ib : (c.toNat : Int) - 48 < 16 := by omega
          have hF0 : puL 16 65535 acc (c :: bs.drop (k + 1)) = if 65535 < acc * 16 + dgN c then .range else puL 16 65535 (acc * 16 + dgN c) (bs.drop (k + 1)) := by rw [puL, if_pos (by omega)]
          rw [hdg] at hF0
          by_cases hov : 65535 < acc * 16 + (c.toNat - 48)
          · rw [if_pos hov] at hF0
            rw [hF0] at hdec
            by_cases hcut : 1152921504606846976 ≤ acc
            · exfalso; omega
            · have icut : a < 1152921504606846976 := by omega
              have iov : 65535 < a * 16 + ((c.toNat : Int) - 48) := by omega
              clear hcut hacc hF0 ha hdg hb hov
              go_wp2
              all_goals go_ret2
              all_goals first | exact ⟨rfl, rfl⟩ | exact ⟨by rw [hdec]; rfl, rfl⟩
          · rw [if_neg hov] at hF0
            have HN : Hid (a * 16 + ((c.toNat : Int) - 48) = ((acc * 16 + (c.toNat - 48) : Nat) : Int) ∧ acc * 16 + (c.toNat - 48) ≤ 65535 ∧ puL 16 65535 0 bs = puL 16 65535 (acc * 16 + (c.toNat - 48)) (bs.drop (k + 1))) := Lib.hid ⟨by omega, by omega, hdec.trans hF0⟩
            have icut : a < 1152921504606846976 := by omega
            have iov : a * 16 + ((c.toNat : Int) - 48) ≤ 65535 := by omega
            clear hacc hF0 hov hdec ha hdg hb
            go_wp2
            all_goals exact ⟨⟨k + 1, acc * 16 + (c.toNat - 48), a * 16 + ((c.toNat : Int) - 48), rfl, (by first | rfl | (congr 1; omega)), (by first | rfl | (congr 1; omega)), by omega, HN⟩, by simp [intOf]; omega⟩
        · exfalso; omega
      · have hlow := low_bits hc256
        clear hdgl
        by_cases hlet : 97 ≤ lowN c.toNat ∧ lowN c.toNat ≤ 122
        · obtain ⟨hl0, hl1⟩ := hlet
          have hdg := dg_letter hl0 hl1
          have hun : c.toNat ≠ 95 := by
            rcases low_letter hc256 hl0 hl1 with ⟨a, b, _⟩ | ⟨a, b, _⟩ <;> omega
          generalize lowN c.toNat = lo at *
          by_cases hb : lo - 87 < 16
          · have ib : (lo : Int) - 87 < 16 := by omega
            have hF0 : puL 16 65535 acc (c :: bs.drop (k + 1)) = if 65535 < acc * 16 + dgN c then .range else puL 16 65535 (acc * 16 + dgN c) (bs.drop (k + 1)) := by rw [puL, if_pos (by omega)]
            rw [hdg] at hF0
            by_cases hov : 65535 < acc * 16 + (lo - 87)
            · rw [if_pos hov] at hF0
              rw [hF0] at hdec
              by_cases hcut : 1152921504606846976 ≤ acc
              · exfalso; omega
              · have icut : a < 1152921504606846976 := by omega
                have iov : 65535 < a * 16 + ((lo : Int) - 87) := by omega
                clear hcut hacc hF0 ha hdg hb hov
                go_wp2_with (go_at_fn (ρ.f 19); refine (AnyPu.internal_strconv_lower { L with } _ _).mono ?_; rintro e w' ⟨he, rfl⟩; rw [hlow] at he; subst he)
                all_goals go_ret2
                all_goals first | exact ⟨rfl, rfl⟩ | exact ⟨by rw [hdec]; rfl, rfl⟩
            · rw [if_neg hov] at hF0
              have HN : Hid (a * 16 + ((lo : Int) - 87) = ((acc * 16 + (lo - 87) : Nat) : Int) ∧ acc * 16 + (lo - 87) ≤ 65535 ∧ puL 16 65535 0 bs = puL 16 65535 (acc * 16 + (lo - 87)) (bs.drop (k + 1))) := Lib.hid ⟨by omega, by omega, hdec.trans hF0⟩
              have icut : a < 1152921504606846976 := by omega
              have iov : a * 16 + ((lo : Int) - 87) ≤ 65535 := by omega
              clear hacc hF0 hov hdec ha hdg hb
              go_wp2_with (go_at_fn (ρ.f 19); refine (AnyPu.internal_strconv_lower { L with } _ _).mono ?_; rintro e w' ⟨he, rfl⟩; rw [hlow] at he; subst he)
              all_goals exact ⟨⟨k + 1, acc * 16 + (lo - 87), a * 16 + ((lo : Int) - 87), rfl, (by first | rfl | (congr 1; omega)), (by first | rfl | (congr 1; omega)), by omega, HN⟩, by simp [intOf]; omega⟩
          · have hF : puL 16 65535 acc (c :: bs.drop (k + 1)) = .syntax := by rw [puL, if_neg (by omega)]
            rw [hF] at hdec
            have ib : 16 ≤ (lo : Int) - 87 := by omega
            clear hacc hF ha hdg hb
            go_wp2_with (go_at_fn (ρ.f 19); refine (AnyPu.internal_strconv_lower { L with } _ _).mono ?_; rintro e w' ⟨he, rfl⟩; rw [hlow] at he; subst he)
            all_goals go_ret2
            all_goals first | exact ⟨rfl, rfl⟩ | exact ⟨by rw [hdec]; rfl, rfl⟩
        · have hdg := dg_none hdig hlet
          have hF : puL 16 65535 acc (c :: bs.drop (k + 1)) = .syntax := by rw [puL, if_neg (by omega)]
          rw [hF] at hdec
          have hl256 : lowN c.toNat < 300 := by unfold lowN; split <;> omega
          clear hacc hF ha hdg
          by_cases h95 : c.toNat = 95
          · have hlow95 : bits .or .u8 95 32 = 127 := by decide
            rw [h95] at hc
            clear hlow hl256 hlet hdig hc256 h95
            go_wp2_with (go_at_fn (ρ.f 19); refine (AnyPu.internal_strconv_lower { L with } _ _).mono ?_; rintro e w' ⟨he, rfl⟩; rw [hlow95] at he; subst he)
            all_goals go_ret2
            all_goals first | exact ⟨rfl, rfl⟩ | exact ⟨by rw [hdec]; rfl, rfl⟩
          · generalize lowN c.toNat = lo at *
            go_wp2_with (go_at_fn (ρ.f 19); refine (AnyPu.internal_strconv_lower { L with } _ _).mono ?_; rintro e w' ⟨he, rfl⟩; rw [hlow] at he; subst he)
            all_goals go_ret2
            all_goals first | exact ⟨rfl, rfl⟩ | exact ⟨by rw [hdec]; rfl, rfl⟩
    · have hkk : k = t.size := by omega
      subst hkk
      have hF : puL 16 65535 acc (bs.drop t.size) = .ok acc := by rw [List.drop_eq_nil_of_le (by omega)]; rfl
      rw [hF] at hdec
      subst ha
      clear hacc hF a0 a1
      go_wp2
      go_ret2
      first | exact ⟨rfl, rfl⟩ | exact ⟨by rw [hdec]; rfl, rfl⟩
/-- what is answered: the number and no error; or an error -/
def puSaid : Lib.NumEnd Nat → Int → Value → Prop
  | .ok n, u, er => u = n ∧ er = .nilIface
  | _, _, er => ∃ T N, er = .iface T (.pointer (some ⟨N, 0, none⟩))
set_option maxHeartbeats 4000000 in
set_option maxRecDepth 100000 in
theorem parseUint_8_64 (L : LaysPu.n14 P ρ) (t : ByteArray) (hlim : t.size ≤ 281474976710656) (ev ev1 : Value) (w : World) (hv : w.cell? ⟨(ρ.g 0), 0, none⟩ = some ev) (hev : ev = .nilIface ∨ ∃ te pe, ev = .iface te pe) (hv1 : w.cell? ⟨(ρ.g 1), 0, none⟩ = some ev1) (hev1 : ev1 = .nilIface ∨ ∃ te pe, ev1 = .iface te pe) :
    Calls P (ρ.f 14) #[.string t, .int .i64 8, .int .i64 64] w fun e w' => ∃ u er, e = .returned (.tuple #[.int .u64 u, er]) ∧ Below w.heap.size w w' ∧ puSaid (puAll 8 18446744073709551615 t.data.toList) u er := by
  have hI : Calls P (ρ.f 16) #[.string t, .int .i64 8, .int .i64 64] w fun e w' => e = .returned (Lib.uintTupleM (ρ.t 34) 18446744073709551615 (puAll 8 18446744073709551615 t.data.toList)) ∧ (w' = w ∨ w' = Lib.bytesWorld w (ρ.t 5) t) := by
    by_cases h0 : t.size = 0
    · have ht : t = ⟨#[]⟩ := by
        apply ByteArray.ext
        exact Array.eq_empty_of_size_eq_zero h0
      subst ht
      exact (AnyPu.internal_strconv_ParseUint_empty { L with } 8 64 w).mono fun e w' ⟨he, hw⟩ => ⟨he, Or.inl hw⟩
    · have hne : t.data.toList ≠ [] := fun h => h0 (by rw [Lib.size_eq, h]; rfl)
      refine (pu_8_64 { L with } t h0 (by omega) w).mono fun e w' ⟨he, hw⟩ => ⟨?_, Or.inr hw⟩
      rw [he, puAll, if_neg hne]
  have mixed := L.mixed
  have t9 := L.t9; have a9 := L.a9; have z9 := L.z9; have v9 := L.v9
  have t3 := L.t3; have a3 := L.a3; have z3 := L.z3; have v3 := L.v3
  have t22 := L.t22; have a22 := L.a22; have z22 := L.z22; have v22 := L.v22
  have t24 := L.t24; have a24 := L.a24; have z24 := L.z24; have v24 := L.v24
  have t25 := L.t25; have a25 := L.a25; have z25 := L.z25; have v25 := L.v25
  have t4 := L.t4; have a4 := L.a4; have z4 := L.z4; have v4 := L.v4
  have e16 : ∀ args w, (callFunc (ρ.f 16) args).run P w = .ok (.enter (ρ.f 16) args) w := enters_of L.f16 (by kernel_rfl) rfl
  have e17 : ∀ args w, (callFunc (ρ.f 17) args).run P w = .ok (.enter (ρ.f 17) args) w := enters_of L.f17 (by kernel_rfl) rfl
  have hG : (ρ.g 0) < w.heap.size := Lib.lt_of_cell hv
  have hG1 : (ρ.g 1) < w.heap.size := Lib.lt_of_cell hv1
  generalize puAll 8 18446744073709551615 t.data.toList = R at hI ⊢
  cases R with
  | ok n =>
    have hI : Calls P (ρ.f 16) #[.string t, .int .i64 8, .int .i64 64] w fun e w' => e = .returned (.tuple #[.int .u64 n, .nilIface]) ∧ (w' = w ∨ w' = Lib.bytesWorld w (ρ.t 5) t) := hI
    go_enter L.f14, BodyPu.n14_ntmps ρ
    go_wp2_with (go_at_fn (ρ.f 16); refine hI.mono ?_; rintro e W1 ⟨rfl, hW⟩)
    have hb1 : Below w.heap.size w W1 := by
      rcases hW with rfl | rfl
      · exact Below.refl _ _
      · exact Lib.bytesWorld_below _ _ _
    clear hW
    go_wp2
    go_ret2
    exact ⟨n, .nilIface, rfl, hb1, rfl, rfl⟩
  | «syntax» =>
    have hI : Calls P (ρ.f 16) #[.string t, .int .i64 8, .int .i64 64] w fun e w' => e = .returned (.tuple #[.int .u64 0, .iface (ρ.t 34) (.int .i64 2)]) ∧ (w' = w ∨ w' = Lib.bytesWorld w (ρ.t 5) t) := hI
    go_enter L.f14, BodyPu.n14_ntmps ρ
    go_wp2_with (go_at_fn (ρ.f 16); refine hI.mono ?_; rintro e W1 ⟨rfl, hW⟩)
    have hb1 : Below w.heap.size w W1 := by
      rcases hW with rfl | rfl
      · exact Below.refl _ _
      · exact Lib.bytesWorld_below _ _ _
    have hv2 : W1.cell? ⟨(ρ.g 0), 0, none⟩ = some ev := (hb1.cell (show (⟨(ρ.g 0), 0, none⟩ : Addr).block < w.heap.size from hG)).trans hv
    clear hW
    go_wp2_with (go_at_fn (ρ.f 17); refine (AnyPu.strconv_toError_syntax { L with } ⟨#[80, 97, 114, 115, 101, 85, 105, 110, 116]⟩ t 8 64 ev _ hlim ?_ hev).mono ?_)
    · exact hv2
    rintro e W2 ⟨N, rfl, h1, h2, h3⟩
    go_wp2
    go_ret2
    exact ⟨0, _, rfl, hb1.trans (h3.mono hb1.size), _, N, rfl⟩
  | range =>
    have hI : Calls P (ρ.f 16) #[.string t, .int .i64 8, .int .i64 64] w fun e w' => e = .returned (.tuple #[.int .u64 18446744073709551615, .iface (ρ.t 34) (.int .i64 1)]) ∧ (w' = w ∨ w' = Lib.bytesWorld w (ρ.t 5) t) := hI
    go_enter L.f14, BodyPu.n14_ntmps ρ
    go_wp2_with (go_at_fn (ρ.f 16); refine hI.mono ?_; rintro e W1 ⟨rfl, hW⟩)
    have hb1 : Below w.heap.size w W1 := by
      rcases hW with rfl | rfl
      · exact Below.refl _ _
      · exact Lib.bytesWorld_below _ _ _
    have hv2 : W1.cell? ⟨(ρ.g 1), 0, none⟩ = some ev1 := (hb1.cell (show (⟨(ρ.g 1), 0, none⟩ : Addr).block < w.heap.size from hG1)).trans hv1
    clear hW
    go_wp2_with (go_at_fn (ρ.f 17); refine (AnyPu.strconv_toError_range { L with } ⟨#[80, 97, 114, 115, 101, 85, 105, 110, 116]⟩ t 8 64 ev1 _ hlim ?_ hev1).mono ?_)
    · exact hv2
    rintro e W2 ⟨N, rfl, h1, h2, h3⟩
    go_wp2
    go_ret2
    exact ⟨18446744073709551615, _, rfl, hb1.trans (h3.mono hb1.size), _, N, rfl⟩
set_option maxHeartbeats 4000000 in
set_option maxRecDepth 100000 in
theorem parseUint_10_64 (L : LaysPu.n14 P ρ) (t : ByteArray) (hlim : t.size ≤ 281474976710656) (ev ev1 : Value) (w : World) (hv : w.cell? ⟨(ρ.g 0), 0, none⟩ = some ev) (hev : ev = .nilIface ∨ ∃ te pe, ev = .iface te pe) (hv1 : w.cell? ⟨(ρ.g 1), 0, none⟩ = some ev1) (hev1 : ev1 = .nilIface ∨ ∃ te pe, ev1 = .iface te pe) :
    Calls P (ρ.f 14) #[.string t, .int .i64 10, .int .i64 64] w fun e w' => ∃ u er, e = .returned (.tuple #[.int .u64 u, er]) ∧ Below w.heap.size w w' ∧ puSaid (puAll 10 18446744073709551615 t.data.toList) u er := by
  have hI : Calls P (ρ.f 16) #[.string t, .int .i64 10, .int .i64 64] w fun e w' => e = .returned (Lib.uintTupleM (ρ.t 34) 18446744073709551615 (puAll 10 18446744073709551615 t.data.toList)) ∧ (w' = w ∨ w' = Lib.bytesWorld w (ρ.t 5) t) := by
    by_cases h0 : t.size = 0
    · have ht : t = ⟨#[]⟩ := by
        apply ByteArray.ext
        exact Array.eq_empty_of_size_eq_zero h0
      subst ht
      exact (AnyPu.internal_strconv_ParseUint_empty { L with } 10 64 w).mono fun e w' ⟨he, hw⟩ => ⟨he, Or.inl hw⟩
    · have hne : t.data.toList ≠ [] := fun h => h0 (by rw [Lib.size_eq, h]; rfl)
      refine (pu_10_64 { L with } t h0 (by omega) w).mono fun e w' ⟨he, hw⟩ => ⟨?_, Or.inr hw⟩
      rw [he, puAll, if_neg hne]
  have mixed := L.mixed
  have t9 := L.t9; have a9 := L.a9; have z9 := L.z9; have v9 := L.v9
  have t3 := L.t3; have a3 := L.a3; have z3 := L.z3; have v3 := L.v3
  have t22 := L.t22; have a22 := L.a22; have z22 := L.z22; have v22 := L.v22
  have t24 := L.t24; have a24 := L.a24; have z24 := L.z24; have v24 := L.v24
  have t25 := L.t25; have a25 := L.a25; have z25 := L.z25; have v25 := L.v25
  have t4 := L.t4; have a4 := L.a4; have z4 := L.z4; have v4 := L.v4
  have e16 : ∀ args w, (callFunc (ρ.f 16) args).run P w = .ok (.enter (ρ.f 16) args) w := enters_of L.f16 (by kernel_rfl) rfl
  have e17 : ∀ args w, (callFunc (ρ.f 17) args).run P w = .ok (.enter (ρ.f 17) args) w := enters_of L.f17 (by kernel_rfl) rfl
  have hG : (ρ.g 0) < w.heap.size := Lib.lt_of_cell hv
  have hG1 : (ρ.g 1) < w.heap.size := Lib.lt_of_cell hv1
  generalize puAll 10 18446744073709551615 t.data.toList = R at hI ⊢
  cases R with
  | ok n =>
    have hI : Calls P (ρ.f 16) #[.string t, .int .i64 10, .int .i64 64] w fun e w' => e = .returned (.tuple #[.int .u64 n, .nilIface]) ∧ (w' = w ∨ w' = Lib.bytesWorld w (ρ.t 5) t) := hI
    go_enter L.f14, BodyPu.n14_ntmps ρ
    go_wp2_with (go_at_fn (ρ.f 16); refine hI.mono ?_; rintro e W1 ⟨rfl, hW⟩)
    have hb1 : Below w.heap.size w W1 := by
      rcases hW with rfl | rfl
      · exact Below.refl _ _
      · exact Lib.bytesWorld_below _ _ _
    clear hW
    go_wp2
    go_ret2
    exact ⟨n, .nilIface, rfl, hb1, rfl, rfl⟩
  | «syntax» =>
    have hI : Calls P (ρ.f 16) #[.string t, .int .i64 10, .int .i64 64] w fun e w' => e = .returned (.tuple #[.int .u64 0, .iface (ρ.t 34) (.int .i64 2)]) ∧ (w' = w ∨ w' = Lib.bytesWorld w (ρ.t 5) t) := hI
    go_enter L.f14, BodyPu.n14_ntmps ρ
    go_wp2_with (go_at_fn (ρ.f 16); refine hI.mono ?_; rintro e W1 ⟨rfl, hW⟩)
    have hb1 : Below w.heap.size w W1 := by
      rcases hW with rfl | rfl
      · exact Below.refl _ _
      · exact Lib.bytesWorld_below _ _ _
    have hv2 : W1.cell? ⟨(ρ.g 0), 0, none⟩ = some ev := (hb1.cell (show (⟨(ρ.g 0), 0, none⟩ : Addr).block < w.heap.size from hG)).trans hv
    clear hW
    go_wp2_with (go_at_fn (ρ.f 17); refine (AnyPu.strconv_toError_syntax { L with } ⟨#[80, 97, 114, 115, 101, 85, 105, 110, 116]⟩ t 10 64 ev _ hlim ?_ hev).mono ?_)
    · exact hv2
    rintro e W2 ⟨N, rfl, h1, h2, h3⟩
    go_wp2
    go_ret2
    exact ⟨0, _, rfl, hb1.trans (h3.mono hb1.size), _, N, rfl⟩
  | range =>
    have hI : Calls P (ρ.f 16) #[.string t, .int .i64 10, .int .i64 64] w fun e w' => e = .returned (.tuple #[.int .u64 18446744073709551615, .iface (ρ.t 34) (.int .i64 1)]) ∧ (w' = w ∨ w' = Lib.bytesWorld w (ρ.t 5) t) := hI
    go_enter L.f14, BodyPu.n14_ntmps ρ
    go_wp2_with (go_at_fn (ρ.f 16); refine hI.mono ?_; rintro e W1 ⟨rfl, hW⟩)
    have hb1 : Below w.heap.size w W1 := by
      rcases hW with rfl | rfl
      · exact Below.refl _ _
      · exact Lib.bytesWorld_below _ _ _
    have hv2 : W1.cell? ⟨(ρ.g 1), 0, none⟩ = some ev1 := (hb1.cell (show (⟨(ρ.g 1), 0, none⟩ : Addr).block < w.heap.size from hG1)).trans hv1
    clear hW
    go_wp2_with (go_at_fn (ρ.f 17); refine (AnyPu.strconv_toError_range { L with } ⟨#[80, 97, 114, 115, 101, 85, 105, 110, 116]⟩ t 10 64 ev1 _ hlim ?_ hev1).mono ?_)
    · exact hv2
    rintro e W2 ⟨N, rfl, h1, h2, h3⟩
    go_wp2
    go_ret2
    exact ⟨18446744073709551615, _, rfl, hb1.trans (h3.mono hb1.size), _, N, rfl⟩
set_option maxHeartbeats 4000000 in
set_option maxRecDepth 100000 in
theorem parseUint_16_64 (L : LaysPu.n14 P ρ) (t : ByteArray) (hlim : t.size ≤ 281474976710656) (ev ev1 : Value) (w : World) (hv : w.cell? ⟨(ρ.g 0), 0, none⟩ = some ev) (hev : ev = .nilIface ∨ ∃ te pe, ev = .iface te pe) (hv1 : w.cell? ⟨(ρ.g 1), 0, none⟩ = some ev1) (hev1 : ev1 = .nilIface ∨ ∃ te pe, ev1 = .iface te pe) :
    Calls P (ρ.f 14) #[.string t, .int .i64 16, .int .i64 64] w fun e w' => ∃ u er, e = .returned (.tuple #[.int .u64 u, er]) ∧ Below w.heap.size w w' ∧ puSaid (puAll 16 18446744073709551615 t.data.toList) u er := by
  have hI : Calls P (ρ.f 16) #[.string t, .int .i64 16, .int .i64 64] w fun e w' => e = .returned (Lib.uintTupleM (ρ.t 34) 18446744073709551615 (puAll 16 18446744073709551615 t.data.toList)) ∧ (w' = w ∨ w' = Lib.bytesWorld w (ρ.t 5) t) := by
    by_cases h0 : t.size = 0
    · have ht : t = ⟨#[]⟩ := by
        apply ByteArray.ext
        exact Array.eq_empty_of_size_eq_zero h0
      subst ht
      exact (AnyPu.internal_strconv_ParseUint_empty { L with } 16 64 w).mono fun e w' ⟨he, hw⟩ => ⟨he, Or.inl hw⟩
    · have hne : t.data.toList ≠ [] := fun h => h0 (by rw [Lib.size_eq, h]; rfl)
      refine (pu_16_64 { L with } t h0 (by omega) w).mono fun e w' ⟨he, hw⟩ => ⟨?_, Or.inr hw⟩
      rw [he, puAll, if_neg hne]
  have mixed := L.mixed
  have t9 := L.t9; have a9 := L.a9; have z9 := L.z9; have v9 := L.v9
  have t3 := L.t3; have a3 := L.a3; have z3 := L.z3; have v3 := L.v3
  have t22 := L.t22; have a22 := L.a22; have z22 := L.z22; have v22 := L.v22
  have t24 := L.t24; have a24 := L.a24; have z24 := L.z24; have v24 := L.v24
  have t25 := L.t25; have a25 := L.a25; have z25 := L.z25; have v25 := L.v25
  have t4 := L.t4; have a4 := L.a4; have z4 := L.z4; have v4 := L.v4
  have e16 : ∀ args w, (callFunc (ρ.f 16) args).run P w = .ok (.enter (ρ.f 16) args) w := enters_of L.f16 (by kernel_rfl) rfl
  have e17 : ∀ args w, (callFunc (ρ.f 17) args).run P w = .ok (.enter (ρ.f 17) args) w := enters_of L.f17 (by kernel_rfl) rfl
  have hG : (ρ.g 0) < w.heap.size := Lib.lt_of_cell hv
  have hG1 : (ρ.g 1) < w.heap.size := Lib.lt_of_cell hv1
  generalize puAll 16 18446744073709551615 t.data.toList = R at hI ⊢
  cases R with
  | ok n =>
    have hI : Calls P (ρ.f 16) #[.string t, .int .i64 16, .int .i64 64] w fun e w' => e = .returned (.tuple #[.int .u64 n, .nilIface]) ∧ (w' = w ∨ w' = Lib.bytesWorld w (ρ.t 5) t) := hI
    go_enter L.f14, BodyPu.n14_ntmps ρ
    go_wp2_with (go_at_fn (ρ.f 16); refine hI.mono ?_; rintro e W1 ⟨rfl, hW⟩)
    have hb1 : Below w.heap.size w W1 := by
      rcases hW with rfl | rfl
      · exact Below.refl _ _
      · exact Lib.bytesWorld_below _ _ _
    clear hW
    go_wp2
    go_ret2
    exact ⟨n, .nilIface, rfl, hb1, rfl, rfl⟩
  | «syntax» =>
    have hI : Calls P (ρ.f 16) #[.string t, .int .i64 16, .int .i64 64] w fun e w' => e = .returned (.tuple #[.int .u64 0, .iface (ρ.t 34) (.int .i64 2)]) ∧ (w' = w ∨ w' = Lib.bytesWorld w (ρ.t 5) t) := hI
    go_enter L.f14, BodyPu.n14_ntmps ρ
    go_wp2_with (go_at_fn (ρ.f 16); refine hI.mono ?_; rintro e W1 ⟨rfl, hW⟩)
    have hb1 : Below w.heap.size w W1 := by
      rcases hW with rfl | rfl
      · exact Below.refl _ _
      · exact Lib.bytesWorld_below _ _ _
    have hv2 : W1.cell? ⟨(ρ.g 0), 0, none⟩ = some ev := (hb1.cell (show (⟨(ρ.g 0), 0, none⟩ : Addr).block < w.heap.size from hG)).trans hv
    clear hW
    go_wp2_with (go_at_fn (ρ.f 17); refine (AnyPu.strconv_toError_syntax { L with } ⟨#[80, 97, 114, 115, 101, 85, 105, 110, 116]⟩ t 16 64 ev _ hlim ?_ hev).mono ?_)
    · exact hv2
    rintro e W2 ⟨N, rfl, h1, h2, h3⟩
    go_wp2
    go_ret2
    exact ⟨0, _, rfl, hb1.trans (h3.mono hb1.size), _, N, rfl⟩
  | range =>
    have hI : Calls P (ρ.f 16) #[.string t, .int .i64 16, .int .i64 64] w fun e w' => e = .returned (.tuple #[.int .u64 18446744073709551615, .iface (ρ.t 34) (.int .i64 1)]) ∧ (w' = w ∨ w' = Lib.bytesWorld w (ρ.t 5) t) := hI
    go_enter L.f14, BodyPu.n14_ntmps ρ
    go_wp2_with (go_at_fn (ρ.f 16); refine hI.mono ?_; rintro e W1 ⟨rfl, hW⟩)
    have hb1 : Below w.heap.size w W1 := by
      rcases hW with rfl | rfl
      · exact Below.refl _ _
      · exact Lib.bytesWorld_below _ _ _
    have hv2 : W1.cell? ⟨(ρ.g 1), 0, none⟩ = some ev1 := (hb1.cell (show (⟨(ρ.g 1), 0, none⟩ : Addr).block < w.heap.size from hG1)).trans hv1
    clear hW
    go_wp2_with (go_at_fn (ρ.f 17); refine (AnyPu.strconv_toError_range { L with } ⟨#[80, 97, 114, 115, 101, 85, 105, 110, 116]⟩ t 16 64 ev1 _ hlim ?_ hev1).mono ?_)
    · exact hv2
    rintro e W2 ⟨N, rfl, h1, h2, h3⟩
    go_wp2
    go_ret2
    exact ⟨18446744073709551615, _, rfl, hb1.trans (h3.mono hb1.size), _, N, rfl⟩
set_option maxHeartbeats 4000000 in
set_option maxRecDepth 100000 in
theorem parseUint_16_16 (L : LaysPu.n14 P ρ) (t : ByteArray) (hlim : t.size ≤ 281474976710656) (ev ev1 : Value) (w : World) (hv : w.cell? ⟨(ρ.g 0), 0, none⟩ = some ev) (hev : ev = .nilIface ∨ ∃ te pe, ev = .iface te pe) (hv1 : w.cell? ⟨(ρ.g 1), 0, none⟩ = some ev1) (hev1 : ev1 = .nilIface ∨ ∃ te pe, ev1 = .iface te pe) :
    Calls P (ρ.f 14) #[.string t, .int .i64 16, .int .i64 16] w fun e w' => ∃ u er, e = .returned (.tuple #[.int .u64 u, er]) ∧ Below w.heap.size w w' ∧ puSaid (puAll 16 65535 t.data.toList) u er := by
  have hI : Calls P (ρ.f 16) #[.string t, .int .i64 16, .int .i64 16] w fun e w' => e = .returned (Lib.uintTupleM (ρ.t 34) 65535 (puAll 16 65535 t.data.toList)) ∧ (w' = w ∨ w' = Lib.bytesWorld w (ρ.t 5) t) := by
    by_cases h0 : t.size = 0
    · have ht : t = ⟨#[]⟩ := by
        apply ByteArray.ext
        exact Array.eq_empty_of_size_eq_zero h0
      subst ht
      exact (AnyPu.internal_strconv_ParseUint_empty { L with } 16 16 w).mono fun e w' ⟨he, hw⟩ => ⟨he, Or.inl hw⟩
    · have hne : t.data.toList ≠ [] := fun h => h0 (by rw [Lib.size_eq, h]; rfl)
      refine (pu_16_16 { L with } t h0 (by omega) w).mono fun e w' ⟨he, hw⟩ => ⟨?_, Or.inr hw⟩
      rw [he, puAll, if_neg hne]
  have mixed := L.mixed
  have t9 := L.t9; have a9 := L.a9; have z9 := L.z9; have v9 := L.v9
  have t3 := L.t3; have a3 := L.a3; have z3 := L.z3; have v3 := L.v3
  have t22 := L.t22; have a22 := L.a22; have z22 := L.z22; have v22 := L.v22
  have t24 := L.t24; have a24 := L.a24; have z24 := L.z24; have v24 := L.v24
  have t25 := L.t25; have a25 := L.a25; have z25 := L.z25; have v25 := L.v25
  have t4 := L.t4; have a4 := L.a4; have z4 := L.z4; have v4 := L.v4
  have e16 : ∀ args w, (callFunc (ρ.f 16) args).run P w = .ok (.enter (ρ.f 16) args) w := enters_of L.f16 (by kernel_rfl) rfl
  have e17 : ∀ args w, (callFunc (ρ.f 17) args).run P w = .ok (.enter (ρ.f 17) args) w := enters_of L.f17 (by kernel_rfl) rfl
  have hG : (ρ.g 0) < w.heap.size := Lib.lt_of_cell hv
  have hG1 : (ρ.g 1) < w.heap.size := Lib.lt_of_cell hv1
  generalize puAll 16 65535 t.data.toList = R at hI ⊢
  cases R with
  | ok n =>
    have hI : Calls P (ρ.f 16) #[.string t, .int .i64 16, .int .i64 16] w fun e w' => e = .returned (.tuple #[.int .u64 n, .nilIface]) ∧ (w' = w ∨ w' = Lib.bytesWorld w (ρ.t 5) t) := hI
    go_enter L.f14, BodyPu.n14_ntmps ρ
    go_wp2_with (go_at_fn (ρ.f 16); refine hI.mono ?_; rintro e W1 ⟨rfl, hW⟩)
    have hb1 : Below w.heap.size w W1 := by
      rcases hW with rfl | rfl
      · exact Below.refl _ _
      · exact Lib.bytesWorld_below _ _ _
    clear hW
    go_wp2
    go_ret2
    exact ⟨n, .nilIface, rfl, hb1, rfl, rfl⟩
  | «syntax» =>
    have hI : Calls P (ρ.f 16) #[.string t, .int .i64 16, .int .i64 16] w fun e w' => e = .returned (.tuple #[.int .u64 0, .iface (ρ.t 34) (.int .i64 2)]) ∧ (w' = w ∨ w' = Lib.bytesWorld w (ρ.t 5) t) := hI
    go_enter L.f14, BodyPu.n14_ntmps ρ
    go_wp2_with (go_at_fn (ρ.f 16); refine hI.mono ?_; rintro e W1 ⟨rfl, hW⟩)
    have hb1 : Below w.heap.size w W1 := by
      rcases hW with rfl | rfl
      · exact Below.refl _ _
      · exact Lib.bytesWorld_below _ _ _
    have hv2 : W1.cell? ⟨(ρ.g 0), 0, none⟩ = some ev := (hb1.cell (show (⟨(ρ.g 0), 0, none⟩ : Addr).block < w.heap.size from hG)).trans hv
    clear hW
    go_wp2_with (go_at_fn (ρ.f 17); refine (AnyPu.strconv_toError_syntax { L with } ⟨#[80, 97, 114, 115, 101, 85, 105, 110, 116]⟩ t 16 16 ev _ hlim ?_ hev).mono ?_)
    · exact hv2
    rintro e W2 ⟨N, rfl, h1, h2, h3⟩
    go_wp2
    go_ret2
    exact ⟨0, _, rfl, hb1.trans (h3.mono hb1.size), _, N, rfl⟩
  | range =>
    have hI : Calls P (ρ.f 16) #[.string t, .int .i64 16, .int .i64 16] w fun e w' => e = .returned (.tuple #[.int .u64 65535, .iface (ρ.t 34) (.int .i64 1)]) ∧ (w' = w ∨ w' = Lib.bytesWorld w (ρ.t 5) t) := hI
    go_enter L.f14, BodyPu.n14_ntmps ρ
    go_wp2_with (go_at_fn (ρ.f 16); refine hI.mono ?_; rintro e W1 ⟨rfl, hW⟩)
    have hb1 : Below w.heap.size w W1 := by
      rcases hW with rfl | rfl
      · exact Below.refl _ _
      · exact Lib.bytesWorld_below _ _ _
    have hv2 : W1.cell? ⟨(ρ.g 1), 0, none⟩ = some ev1 := (hb1.cell (show (⟨(ρ.g 1), 0, none⟩ : Addr).block < w.heap.size from hG1)).trans hv1
    clear hW
    go_wp2_with (go_at_fn (ρ.f 17); refine (AnyPu.strconv_toError_range { L with } ⟨#[80, 97, 114, 115, 101, 85, 105, 110, 116]⟩ t 16 16 ev1 _ hlim ?_ hev1).mono ?_)
    · exact hv2
    rintro e W2 ⟨N, rfl, h1, h2, h3⟩
    go_wp2
    go_ret2
    exact ⟨65535, _, rfl, hb1.trans (h3.mono hb1.size), _, N, rfl⟩
end Go.Proofs.YtkabhnbjjnjdhaaDoor.Q
