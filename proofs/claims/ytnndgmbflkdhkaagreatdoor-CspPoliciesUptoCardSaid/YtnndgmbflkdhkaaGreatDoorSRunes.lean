/- Words that the walks of this claim use. -/
import Derived.Shelf.Strings.IndexAnyAll
import Derived.Laws.RangeAny
import Derived.Laws.Runes
import Derived.Lib.OthersKept
import Derived.Lib.DecodeN
import Derived.Shelf.Strings.FuncGrows
import Derived.StillTailTactics
import Derived.Shelf.RegionOpenPlain
import Derived.RegionTactic
import Derived.Deep.RegionWith
import Derived.Shelf.Small.Utf8
set_option linter.unusedSimpArgs false
set_option linter.unusedVariables false
namespace Go.Proofs
open Go.Shelf Go.RowKit Go.Lib
variable {P : Program} {ρ : Ren}
set_option maxHeartbeats 2000000 in
set_option maxRecDepth 1000000 in
theorem Any.strings_IndexRune_beyond (L : Lays.n152 P ρ) (s : ByteArray) (r : Int) (w : World) (h0 : 128 ≤ r) (hv : r ≠ 65533) (ha : ∀ (j : Nat) b, s.data.toList[j]? = some b → b.toNat < 128) :
    Calls P (ρ.f 152) #[.string s, .int .i32 r] w fun e w' => e = .returned (.int .i64 (-1)) ∧ ∃ n, w' = w.drewN n := by
  have HA : Aside (∀ (j : Nat) b, s.data.toList[j]? = some b → b.toNat < 128) := ha
  clear ha
  have mixed := L.mixed
  have t3 := L.t3; have a3 := L.a3; have z3 := L.z3; have v3 := L.v3
  have t4 := L.t4; have a4 := L.a4; have z4 := L.z4; have v4 := L.v4
  have t5 := L.t5; have a5 := L.a5; have z5 := L.z5; have v5 := L.v5
  have t9 := L.t9; have a9 := L.a9; have z9 := L.z9; have v9 := L.v9
  have t21 := L.t21; have a21 := L.a21; have z21 := L.z21; have v21 := L.v21
  have e137 : ∀ args w, (callFunc (ρ.f 137) args).run P w = .ok (.enter (ρ.f 137) args) w := enters_of L.f137 (by kernel_rfl) rfl
  have e119 : ∀ args w, (callFunc (ρ.f 119) args).run P w = .ok (.enter (ρ.f 119) args) w := enters_of L.f119 (by kernel_rfl) rfl
  have q1 : decide (r < 128) = false := decide_eq_false (by omega)
  have q2 : (r == 65533) = false := beq_eq_false_iff_ne.2 hv
  cases hval : Lib.validRune r with
  | false =>
    go_enter L.f152, Body.n152_ntmps ρ
    go_wp2_with (first
      | (go_at_fn (ρ.f 119); refine (Any.utf8_ValidRune { L with } _ _).mono ?_; rintro e w' ⟨rfl, hw⟩; rw [hw, hval])
      | (go_at_fn (ρ.f 137); refine (Any.strings_IndexByte { L with } _ _ _).mono ?_; rintro e w' ⟨rfl, hw⟩; rw [hw]))
    go_ret
    exact ⟨rfl, 0, rfl⟩
  | true =>
    have q3 : (128 ≤ r) := h0
    obtain ⟨hb2, hb4, hbl⟩ := encode_facts r (by rw [validRune_eq]; exact hval) h0
    have hcv : ∀ W : World, (convert (ρ.t 21) (ρ.t 9) (.int .i32 r)).run P W = .ok (.string (Utf8.encode r)) W := fun W => run_convert_int_string W _ _ _ _ (by rw [t21]; rfl) t9
    generalize Utf8.encode r = rs at *
    obtain ⟨m, hm⟩ : ∃ m, rs.size = m + 1 := ⟨rs.size - 1, by omega⟩
    replace hbl : Aside (∀ m (h : rs.size = m + 1), 128 ≤ (rs[m]'(by omega)).toNat) := fun m h => by
      have := hbl (by omega)
      simpa [h] using this
    go_enter L.f152, Body.n152_ntmps ρ
    go_wp2_with (first
      | (go_at_fn (ρ.f 119); refine (Any.utf8_ValidRune { L with } _ _).mono ?_; rintro e w' ⟨rfl, hw⟩; rw [hw, hval])
      | (go_at_fn (ρ.f 137); refine (Any.strings_IndexByte { L with } _ _ _).mono ?_; rintro e w' ⟨rfl, hw⟩; rw [hw]))
    subst hw
    go_step3
    go_wp2
    go_loopg [9, 10] 0 (fun gg s9 s10 wr => s9 = .int .i64 (m : Int) ∧ wr = w')
    case atStart => exact ⟨rfl, rfl⟩
    case round =>
      obtain ⟨rfl, rfl⟩ := hrel
      by_cases hlt : m < s.size
      · obtain ⟨x, hx⟩ : ∃ x : UInt8, s[m]'hlt = x := ⟨_, rfl⟩
        obtain ⟨y, hy⟩ : ∃ y : UInt8, rs[m]'(by omega) = y := ⟨_, rfl⟩
        have hx1 : x.toNat < 128 := HA.out m x (by rw [← hx]; exact Lib.data_getElem? s m hlt)
        have hy1 : 128 ≤ y.toNat := by rw [← hy]; exact hbl.out m hm
        have q5 : ((x.toNat : Int) == (y.toNat : Int)) = false := beq_eq_false_iff_ne.2 (by omega)
        have q6 : (m : Int) < (s.size : Int) := by omega
        have hno : Lib.indexByte (s.extract (m + 1) s.size).data.toList y = -1 := by
          by_cases h : Lib.indexByte (s.extract (m + 1) s.size).data.toList y = -1
          · exact h
          · have hge := Lib.indexByte_ge (s.extract (m + 1) s.size).data.toList y
            obtain ⟨o, ho⟩ : ∃ o : Nat, Lib.indexByte (s.extract (m + 1) s.size).data.toList y = o := ⟨(Lib.indexByte (s.extract (m + 1) s.size).data.toList y).toNat, by omega⟩
            have h1 := (Lib.indexByte_some ho).1
            have h2 : y ∈ s.data.toList := mem_extract (List.mem_of_getElem? h1)
            obtain ⟨j, hj⟩ := List.mem_iff_getElem?.1 h2
            have := HA.out j y hj
            omega
        go_wp2_with fail
        go_step3
        go_wp2_with fail
        go_region_o
        have q7 : (m : Int) + 1 ≤ (s.size : Int) := by omega
        have q8 : (0 : Int) ≤ (m : Int) + 1 := by omega
        have hwr := wrap_small ((m : Int) + 1) (by omega) (by omega)
        have hsl : ∀ W : World, (Instr.slice (ρ.t 9) (.string s) (some (.int .i64 ((m : Int) + 1))) none none).run P W = .ok (.string (s.extract (m + 1) s.size)) W := fun W => by
          rw [run_slice_string_from_if W _ _ _ _ t9, if_pos ⟨q8, q7⟩]; rfl
        have hback : ((y.toNat : Int)).toNat.toUInt8 = y := by simp
        have hix : ∀ W : World, (Instr.index (ρ.t 9) (.string rs) (.int .i64 (m : Int))).run P W = .ok (.int .u8 (y.toNat : Int)) W := fun W => by
          rw [run_index_string W _ _ _ _ t9]; rw [dif_pos (by omega)]; simp [← hy]
        go_wp2_with fail
        go_still_tail 7, mixed
        go_wp2_with (first
          | (go_at_fn (ρ.f 137); refine (Any.strings_IndexByte { L with } _ _ _).mono ?_; rintro e w' ⟨rfl, hw⟩; rw [hw, hback, hno]))
        simp only [Exit.noGoto_ret, Exit.inBlock, Exit.then]
        go_ret
        exact ⟨rfl, 2, rfl⟩
      · have q6 : ¬ (m : Int) < (s.size : Int) := by omega
        go_wp2
        try rw [Exit.noGoto_ret]
        go_ret
        exact ⟨rfl, 0, rfl⟩
set_option maxHeartbeats 2000000 in
set_option maxRecDepth 1000000 in
theorem Any.strings_IndexRune_error (L : Lays.n152 P ρ) (s : ByteArray) (w : World) (ha : ∀ (j : Nat) b, s.data.toList[j]? = some b → b.toNat < 128) :
    Calls P (ρ.f 152) #[.string s, .int .i32 65533] w fun e w' => e = .returned (.int .i64 (-1)) ∧ ∃ pos, w' = w.iter s pos := by
  have HA : Aside (∀ (j : Nat) b, s.data.toList[j]? = some b → b.toNat < 128) := ha
  clear ha
  have mixed := L.mixed
  have t3 := L.t3; have a3 := L.a3; have z3 := L.z3; have v3 := L.v3
  have t4 := L.t4; have a4 := L.a4; have z4 := L.z4; have v4 := L.v4
  have t5 := L.t5; have a5 := L.a5; have z5 := L.z5; have v5 := L.v5
  have t9 := L.t9; have a9 := L.a9; have z9 := L.z9; have v9 := L.v9
  have t21 := L.t21; have a21 := L.a21; have z21 := L.z21; have v21 := L.v21
  go_enter L.f152, Body.n152_ntmps ρ
  go_wp2_with fail
  go_loopg [5, 6] s.size (fun g _ _ wx => ∃ i : Nat, i + g = s.size ∧ wx = w.iter s i)
  case atStart => exact ⟨0, by omega, rfl⟩
  case round =>
    obtain ⟨i, hig, rfl⟩ := hrel
    cases gk with
    | zero =>
      obtain rfl : i = s.size := by omega
      have hnx := run_next_end (P := P) w s s.size
      go_wp2
      go_ret
      exact ⟨rfl, _, rfl⟩
    | succ g =>
      have hi : i < s.size := by omega
      obtain ⟨x, hx⟩ : ∃ x : UInt8, s[i]'hi = x := ⟨_, rfl⟩
      have hxl : s.data.toList[i]? = some x := by rw [← hx]; exact Lib.data_getElem? s i hi
      have hx128 : x.toNat < 128 := HA.out i x hxl
      have hnx := fun ty => run_next_ascii (P := P) w s i ty hi (by rw [hx]; exact hx128)
      rw [hx] at hnx
      have Hx : Aside (s.data.toList[i]? = some x) := hxl
      clear hxl hx
      have q1 : ((x.toNat : Int) == 65533) = false := beq_eq_false_iff_ne.2 (by omega)
      go_wp2
      go_roundg g
      case measure => omega
      case rel => exact ⟨i + 1, by omega, rfl⟩
theorem get_bang (s : ByteArray) (j : Nat) (h : j < s.size) : s.get! j = s[j]'h := by
  simp [ByteArray.get!, getElem!_pos, h]
  rfl
/-- What a rune beyond ASCII is made of. -/
theorem decode_span (s : ByteArray) (pos : Nat) (h : pos < s.size) (ha : 128 ≤ (s[pos]'h).toNat) :
    pos + (Utf8.decode s pos).2 ≤ s.size ∧ ∀ j (hj : j < s.size), pos ≤ j → j < pos + (Utf8.decode s pos).2 → 128 ≤ (s[j]'hj).toNat := by
  have g0 := get_bang s pos h
  have e : ∀ k, pos + k < s.size → s.get! (pos + k) = s[pos + k]! := fun k hk => by rw [get_bang s (pos + k) hk, getElem!_pos s (pos + k) hk]
  rw [Lib.decode_at]
  rw [g0]
  unfold Lib.decodeN
  have hb : ∀ k, (s.get! (pos + k)).toNat / 64 = 2 → 128 ≤ (s.get! (pos + k)).toNat := fun k hk => by omega
  have close : ∀ n, 1 ≤ n → n ≤ 4 → pos + n ≤ s.size → (∀ k, 1 ≤ k → k < n → 128 ≤ (s.get! (pos + k)).toNat) →
      pos + n ≤ s.size ∧ ∀ j (hj : j < s.size), pos ≤ j → j < pos + n → 128 ≤ (s[j]'hj).toNat := by
    intro n h1 h4 hn hk
    refine ⟨hn, fun j hj hp hlt => ?_⟩
    by_cases e0 : j = pos
    · subst e0; exact ha
    · have := hk (j - pos) (by omega) (by omega)
      rw [show pos + (j - pos) = j by omega, get_bang s j hj] at this
      exact this
  split
  · omega
  · split
    · rename_i h2
      split
      · exact close 2 (by omega) (by omega) (by omega) (fun k h1 hk => by obtain rfl : k = 1 := by omega
                                                                          exact hb 1 h2.2.2)
      · exact close 1 (by omega) (by omega) (by omega) (fun k h1 hk => by omega)
    · split
      · rename_i h3
        split
        · exact close 3 (by omega) (by omega) (by omega) (fun k h1 hk => by
            rcases (show k = 1 ∨ k = 2 by omega) with rfl | rfl
            · exact hb 1 h3.2.1.2
            · exact hb 2 h3.2.2.2)
        · exact close 1 (by omega) (by omega) (by omega) (fun k h1 hk => by omega)
      · split
        · rename_i h4
          split
          · exact close 4 (by omega) (by omega) (by omega) (fun k h1 hk => by
              rcases (show k = 1 ∨ k = 2 ∨ k = 3 by omega) with rfl | rfl | rfl
              · exact hb 1 h4.2.1.2
              · exact hb 2 h4.2.2.1.2
              · exact hb 3 h4.2.2.2.2)
          · exact close 1 (by omega) (by omega) (by omega) (fun k h1 hk => by omega)
        · exact close 1 (by omega) (by omega) (by omega) (fun k h1 hk => by omega)
theorem below_drewN0 (w : World) (n : Nat) : Below w.heap.size w (w.drewN n) := below_drewNg w n
theorem below_iter (w : World) (s : ByteArray) (pos : Nat) : Below w.heap.size w (w.iter s pos) := (Below.refl _ w).alloc (Nat.le_refl _) _
theorem Any.strings_IndexRune_high (L : Lays.n152 P ρ) (s : ByteArray) (r : Int) (w : World) (h0 : 128 ≤ r) (ha : ∀ (j : Nat) b, s.data.toList[j]? = some b → b.toNat < 128) :
    Calls P (ρ.f 152) #[.string s, .int .i32 r] w fun e w' => e = .returned (.int .i64 (-1)) ∧ Below w.heap.size w w' := by
  by_cases hv : r = 65533
  · subst hv
    refine (Any.strings_IndexRune_error L s w ha).mono ?_
    rintro e w' ⟨he, pos, rfl⟩
    exact ⟨he, below_iter _ _ _⟩
  · refine (Any.strings_IndexRune_beyond L s r w h0 hv ha).mono ?_
    rintro e w' ⟨he, n, rfl⟩
    exact ⟨he, below_drewN0 _ _⟩
/-- strings.ContainsRune of an ASCII text, at any rune. -/
theorem Any.strings_ContainsRune_any (L : Lays.n151 P ρ) (s : ByteArray) (r : Nat) (w : World) (ha : ∀ (j : Nat) b, s.data.toList[j]? = some b → b.toNat < 128) :
    Calls P (ρ.f 151) #[.string s, .int .i32 r] w fun e w' => e = .returned (.bool (decide (r < 128) && decide (0 ≤ Lib.indexByte s.data.toList r.toUInt8))) ∧ Below w.heap.size w w' := by
  by_cases h : r < 128
  · refine (Any.strings_ContainsRune_ascii L s r w (by omega) (by omega)).mono ?_
    rintro e w' ⟨rfl, rfl⟩
    rw [decide_eq_true h]
    exact ⟨by simp, Below.refl _ _⟩
  · have HA : Aside (∀ (j : Nat) b, s.data.toList[j]? = some b → b.toNat < 128) := ha
    clear ha
    rw [decide_eq_false h]
    have mixed := L.mixed
    have t3 := L.t3; have a3 := L.a3; have z3 := L.z3; have v3 := L.v3
    have t4 := L.t4; have a4 := L.a4; have z4 := L.z4; have v4 := L.v4
    have t9 := L.t9; have a9 := L.a9; have z9 := L.z9; have v9 := L.v9
    have t21 := L.t21; have a21 := L.a21; have z21 := L.z21; have v21 := L.v21
    have e152 : ∀ args w, (callFunc (ρ.f 152) args).run P w = .ok (.enter (ρ.f 152) args) w := enters_of L.f152 (by kernel_rfl) rfl
    go_enter L.f151, Body.n151_ntmps ρ
    go_wp2_with (go_at_fn (ρ.f 152); refine (Any.strings_IndexRune_high { L with } s (r : Int) _ (by omega) HA.out).mono ?_; rintro e w' ⟨rfl, hw⟩)
    go_ret
    exact ⟨rfl, hw⟩
theorem below_iterAt {w0 w : World} {k : Nat} {s : ByteArray} {pos : Nat} (h : Below w0.heap.size w0 w) (hk : w0.heap.size ≤ k) : Below w0.heap.size w0 (w.iterAt k s pos) :=
  ⟨h.os, h.tape, h.output, by simpa [World.iterAt] using h.size, fun i hi => by
    rw [← h.block i hi]; simp only [World.iterAt]; exact Array.getElem?_setIfInBounds_ne (by omega)⟩
theorem NoAny_span {s : ByteArray} {chars : List UInt8} {pos n : Nat} (h : Lib.NoAny s.data.toList chars pos) (hc : ∀ c ∈ chars, c.toNat < 128)
    (hs : ∀ j (hj : j < s.size), pos ≤ j → j < pos + n → 128 ≤ (s[j]'hj).toNat) : Lib.NoAny s.data.toList chars (pos + n) := fun j b hj hb => by
  by_cases h1 : j < pos
  · exact h j b h1 hb
  · have hlt : j < s.size := by
      have := (List.getElem?_eq_some_iff.1 hb).1
      rw [Array.length_toList] at this; exact this
    have h2 := hs j hlt (by omega) hj
    have h3 : s.data.toList[j]? = some (s[j]'hlt) := Lib.data_getElem? s j hlt
    rw [h3] at hb
    cases hb
    cases hcc : chars.contains (s[j]'hlt) with
    | false => rfl
    | true =>
      have := hc _ (by simpa using hcc)
      omega
set_option maxHeartbeats 8000000 in
set_option maxRecDepth 1000000 in
theorem Any.strings_IndexAny_shortU (L : Lays.n153 P ρ) (s chars : ByteArray) (w : World) (h2 : 2 ≤ chars.size) (h8 : s.size ≤ 8) (hascii : ∀ (j : Nat) b, chars.data.toList[j]? = some b → b.toNat < 128) :
    Calls P (ρ.f 153) #[.string s, .string chars] w fun e w' => e = .returned (.int .i64 (Lib.indexAny s.data.toList chars.data.toList)) ∧ Below w.heap.size w w' := by
  have HA : Aside (∀ (j : Nat) b, chars.data.toList[j]? = some b → b.toNat < 128) := hascii
  have HC : Aside (∀ c ∈ chars.data.toList, c.toNat < 128) := show ∀ c ∈ chars.data.toList, c.toNat < 128 from fun c hc => by
    obtain ⟨j, hj⟩ := List.mem_iff_getElem?.1 hc
    exact hascii j c hj
  clear hascii
  have hemp : chars.toList.isEmpty = false := by
    rw [Lib.toList_data]
    cases h : chars.data.toList with
    | nil => have := Lib.size_eq chars; rw [h, List.length_nil] at this; omega
    | cons _ _ => rfl
  have hn1 : ((chars.size : Int) == 1) = false := beq_eq_false_iff_ne.2 (by omega)
  have h8z : decide ((8 : Int) < (s.size : Int)) = false := decide_eq_false (by omega)
  have t3 := L.t3; have a3 := L.a3; have z3 := L.z3; have v3 := L.v3
  have t4 := L.t4; have a4 := L.a4; have z4 := L.z4; have v4 := L.v4
  have t5 := L.t5; have a5 := L.a5; have z5 := L.z5; have v5 := L.v5
  have t9 := L.t9; have a9 := L.a9; have z9 := L.z9; have v9 := L.v9
  have t21 := L.t21; have a21 := L.a21; have z21 := L.z21; have v21 := L.v21
  have e152 : ∀ args w, (callFunc (ρ.f 152) args).run P w = .ok (.enter (ρ.f 152) args) w := enters_of L.f152 (by kernel_rfl) rfl
  have e226 : ∀ args w, (callFunc (ρ.f 226) args).run P w = .ok (.enter (ρ.f 226) args) w := enters_of L.f226 (by kernel_rfl) rfl
  go_enter L.f153, Body.n153_ntmps ρ
  go_wp2_with (go_at_fn (ρ.f 226); refine (Any.strings_shouldUseASCIISet { L with } _ _).mono ?_; rintro e w' ⟨rfl, hw⟩; rw [hw, h8z])
  go_loopg [9, 10] s.size (fun g _ _ wx => ∃ i : Nat, i ≤ s.size ∧ s.size - i ≤ g ∧ Aside (Below w.heap.size w wx) ∧ Aside (wx.heap[w.heap.size]? = some (.stringIter s i)) ∧ Aside (Lib.NoAny s.data.toList chars.data.toList i))
  case atStart => exact ⟨0, by omega, by omega, below_iter _ _ _, World.iter_heap _ _ _, Lib.NoAny.zero _ _⟩
  case round =>
    obtain ⟨i, hle, hig, HB, HI, HN⟩ := hrel
    by_cases hi : i < s.size
    · obtain ⟨x, hx⟩ : ∃ x : UInt8, s[i]'hi = x := ⟨_, rfl⟩
      have hxl : s.data.toList[i]? = some x := by rw [← hx]; exact Lib.data_getElem? s i hi
      by_cases hx128 : x.toNat < 128
      · have hnx := fun ty => run_next_ascii_at (P := P) wr w.heap.size s i ty HI.out hi (by rw [hx]; exact hx128)
        rw [hx] at hnx
        have Hx : Aside (s.data.toList[i]? = some x) := hxl
        clear hxl hx
        have hcon := Lib.contains_iff_indexByte chars.data.toList x
        have hback : ((x.toNat : Int)).toNat.toUInt8 = x := by simp
        cases hin : chars.data.toList.contains x
        · rw [hin] at hcon
          have hlt : ¬ ((0 : Int) ≤ Lib.indexByte chars.data.toList x) := of_decide_eq_false hcon.symm
          clear hcon
          go_wp2_with (go_at_fn (ρ.f 152); refine (Any.strings_IndexRune_ascii { L with } _ _ _ (by omega) (by omega)).mono ?_; rintro e w' ⟨rfl, hw⟩; rw [hw, hback])
          go_roundg (s.size - (i + 1))
          case measure => omega
          case rel => exact ⟨i + 1, by omega, by omega, below_iterAt HB.out (Nat.le_refl _), iterAt_heap _ _ _ _ _ HI.out, HN.out.succ Hx.out hin⟩
        · rw [hin] at hcon
          have hge : (0 : Int) ≤ Lib.indexByte chars.data.toList x := of_decide_eq_true hcon.symm
          clear hcon
          go_wp2_with (go_at_fn (ρ.f 152); refine (Any.strings_IndexRune_ascii { L with } _ _ _ (by omega) (by omega)).mono ?_; rintro e w' ⟨rfl, hw⟩; rw [hw, hback])
          go_ret
          exact ⟨by rw [Lib.indexAny_hit HN.out Hx.out hin]; rfl, below_iterAt HB.out (Nat.le_refl _)⟩
      · have hnx := fun ty => run_next_any_at (P := P) wr w.heap.size s i ty HI.out hi
        obtain ⟨hr1, hr2⟩ := decode_high s i hi (by rw [hx]; omega)
        obtain ⟨hs1, hs2⟩ := decode_span s i hi (by rw [hx]; omega)
        have HS := NoAny_span HN.out HC.out hs2
        generalize (Utf8.decode s i).1 = r at *
        generalize (Utf8.decode s i).2 = n at *
        have HS' : Aside (Lib.NoAny s.data.toList chars.data.toList (i + n)) := HS
        clear HS hs2 hxl hx
        go_wp2_with (go_at_fn (ρ.f 152); refine (Any.strings_IndexRune_high { L with } chars (r : Int) _ (by omega) HA.out).mono ?_; rintro e w' ⟨rfl, hw⟩)
        go_roundg (s.size - (i + n))
        case measure => omega
        case rel =>
          refine ⟨i + n, hs1, by omega, ?_, ?_, HS'.out⟩
          · exact (below_iterAt (s := s) (pos := i + n) HB.out (Nat.le_refl _)).trans (hw.mono (by have := HB.out.size; simpa [World.iterAt] using this))
          · have hlt : w.heap.size < (wr.iterAt w.heap.size s (i + n)).heap.size := by
              have := (Array.getElem?_eq_some_iff.1 HI.out).1
              simpa [World.iterAt] using this
            exact (hw.block _ hlt).trans (iterAt_heap _ _ _ _ _ HI.out)
    · obtain rfl : i = s.size := by omega
      have hnx := fun ty => run_next_end_at (P := P) wr w.heap.size s s.size ty HI.out hi
      go_wp2
      go_ret
      exact ⟨by rw [Lib.indexAny_none (by rw [← Lib.size_eq]; exact HN.out)]; rfl, HB.out⟩
/-- strings.IndexAny of any text, at ASCII characters. -/
theorem Any.strings_IndexAny_U (L : Lays.n153 P ρ) (hv116 : ∀ w, (zeroValue (ρ.t 116)).run P w = .ok (.agg (Array.replicate 256 (.bool false))) w) (hi116 : (P.info? (ρ.t 116)).map (·.size) = some 256) (s chars : ByteArray) (w : World) (h2 : 2 ≤ chars.size) (hs : s.size < 4294967281) (hcs : chars.size < 4294967281)
    (hac : ∀ (j : Nat) b, chars.data.toList[j]? = some b → b.toNat < 128) :
    Calls P (ρ.f 153) #[.string s, .string chars] w fun e w' => e = .returned (.int .i64 (Lib.indexAny s.data.toList chars.data.toList)) ∧ Below w.heap.size w w' := by
  by_cases h8 : s.size ≤ 8
  · exact Any.strings_IndexAny_shortU L s chars w h2 h8 hac
  · refine (Any.strings_IndexAny_long L hv116 hi116 s chars w (by omega) (by omega) hs hcs hac).mono fun e w' ⟨h1, h2⟩ => ⟨h1, ?_⟩
    rw [h2]
    exact ((Below.refl _ _).alloc (Nat.le_refl _) _).alloc (by simp) _
theorem Any.strings_ContainsAny_U (L : Lays.n150 P ρ) (hv116 : ∀ w, (zeroValue (ρ.t 116)).run P w = .ok (.agg (Array.replicate 256 (.bool false))) w) (hi116 : (P.info? (ρ.t 116)).map (·.size) = some 256) (s chars : ByteArray) (w : World) (h2 : 2 ≤ chars.size) (hs : s.size < 4294967281) (hcs : chars.size < 4294967281)
    (hac : ∀ (j : Nat) b, chars.data.toList[j]? = some b → b.toNat < 128) :
    Calls P (ρ.f 150) #[.string s, .string chars] w fun e w' => e = .returned (.bool (Lib.containsAny s.data.toList chars.data.toList)) ∧ Below w.heap.size w w' := by
  have c := Any.strings_IndexAny_U { L with } hv116 hi116 s chars w h2 hs hcs hac
  have t3 := L.t3; have a3 := L.a3; have z3 := L.z3; have v3 := L.v3
  have t4 := L.t4; have a4 := L.a4; have z4 := L.z4; have v4 := L.v4
  have t9 := L.t9; have a9 := L.a9; have z9 := L.z9; have v9 := L.v9
  have e153 : ∀ args w, (callFunc (ρ.f 153) args).run P w = .ok (.enter (ρ.f 153) args) w := enters_of L.f153 (by kernel_rfl) rfl
  go_enter L.f150, Body.n150_ntmps ρ
  go_wp2_with (go_at_fn (ρ.f 153); refine c.mono ?_; rintro e w' ⟨rfl, hw⟩)
  go_ret
  exact ⟨rfl, hw⟩
end Go.Proofs
