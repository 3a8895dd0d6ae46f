/- csp.port: what it answers, and what it writes into the source expression that x points to. -/
import Derived.Test.YtnndgmbflkdhkaaGreatDoorSB5
import Derived.Test.YtnndgmbflkdhkaaGreatDoorSB3
import Derived.Shelf.Pu.ParseUintPublic10
import Derived.Lib.ParseIntBCases
import Derived.WalkKit
import Derived.Lib.Hide
import Derived.LoopTactic
set_option linter.unusedSimpArgs false
set_option linter.unusedVariables false
namespace Go.Proofs
open Go.Shelf
def Tryz.laysPu_14_ren : Go.Shelf.Ren := ⟨fun | 14 => 99 | 16 => 111 | 17 => 112 | 19 => 119 | 20 => 120 | 21 => 121 | 22 => 122 | 23 => 123 | 24 => 124 | 25 => 128 | 26 => 129 | 27 => 130 | 28 => 131 | 29 => 132 | 30 => 133 | 31 => 134 | 32 => 135 | 33 => 136 | 34 => 137 | 35 => 138 | 36 => 139 | 37 => 140 | 38 => 141 | 39 => 142 | 40 => 143 | n => n, fun | 0 => 0 | 2 => 2 | 3 => 3 | 4 => 4 | 5 => 5 | 9 => 9 | 20 => 20 | 21 => 21 | 22 => 115 | 24 => 89 | 25 => 116 | 34 => 138 | 36 => 129 | 37 => 84 | 39 => 140 | 44 => 157 | 47 => 112 | 48 => 162 | 50 => 164 | 52 => 166 | 55 => 169 | 59 => 172 | 60 => 135 | 61 => 173 | 65 => 176 | 66 => 177 | 67 => 92 | n => n, fun | 0 => 5 | 1 => 6 | 2 => 7 | 3 => 8 | 4 => 9 | n => n⟩
theorem Tryz.laysPu_14 : Go.Proofs.LaysPu.n14 Tryz.prog Tryz.laysPu_14_ren := {
  mixed := by kernel_rfl
  f14 := Tryz.func99.trans (congrArg some (by kernel_rfl))
  f16 := Tryz.func111.trans (congrArg some (by kernel_rfl))
  f17 := Tryz.func112.trans (congrArg some (by kernel_rfl))
  f19 := Tryz.func119.trans (congrArg some (by kernel_rfl))
  f20 := Tryz.func120.trans (congrArg some (by kernel_rfl))
  f21 := Tryz.func121.trans (congrArg some (by kernel_rfl))
  f22 := Tryz.func122.trans (congrArg some (by kernel_rfl))
  f23 := Tryz.func123.trans (congrArg some (by kernel_rfl))
  f24 := Tryz.func124.trans (congrArg some (by kernel_rfl))
  f25 := Tryz.func128.trans (congrArg some (by kernel_rfl))
  f26 := Tryz.func129.trans (congrArg some (by kernel_rfl))
  f27 := Tryz.func130.trans (congrArg some (by kernel_rfl))
  f28 := Tryz.func131.trans (congrArg some (by kernel_rfl))
  f29 := Tryz.func132.trans (congrArg some (by kernel_rfl))
  f30 := Tryz.func133.trans (congrArg some (by kernel_rfl))
  f31 := Tryz.func134.trans (congrArg some (by kernel_rfl))
  f32 := Tryz.func135.trans (congrArg some (by kernel_rfl))
  f33 := Tryz.func136.trans (congrArg some (by kernel_rfl))
  f34 := Tryz.func137.trans (congrArg some (by kernel_rfl))
  f35 := Tryz.func138.trans (congrArg some (by kernel_rfl))
  f36 := Tryz.func139.trans (congrArg some (by kernel_rfl))
  f37 := Tryz.func140.trans (congrArg some (by kernel_rfl))
  f38 := Tryz.func141.trans (congrArg some (by kernel_rfl))
  f39 := Tryz.func142.trans (congrArg some (by kernel_rfl))
  f40 := Tryz.func143.trans (congrArg some (by kernel_rfl))
  t0 := Tryz.underlying0
  a0 := Tryz.isAgg0
  z0 := Tryz.sizeOf0
  v0 := Tryz.zeroValue0
  i0 := by kernel_rfl
  t2 := Tryz.underlying2
  a2 := Tryz.isAgg2
  z2 := Tryz.sizeOf2
  v2 := Tryz.zeroValue2
  i2 := by kernel_rfl
  t3 := Tryz.underlying3
  a3 := Tryz.isAgg3
  z3 := Tryz.sizeOf3
  v3 := Tryz.zeroValue3
  i3 := by kernel_rfl
  t4 := Tryz.underlying4
  a4 := Tryz.isAgg4
  z4 := Tryz.sizeOf4
  v4 := Tryz.zeroValue4
  i4 := by kernel_rfl
  t5 := Tryz.underlying5
  a5 := Tryz.isAgg5
  z5 := Tryz.sizeOf5
  v5 := Tryz.zeroValue5
  i5 := by kernel_rfl
  t9 := Tryz.underlying9
  a9 := Tryz.isAgg9
  z9 := Tryz.sizeOf9
  v9 := Tryz.zeroValue9
  i9 := by kernel_rfl
  t20 := Tryz.underlying20
  a20 := Tryz.isAgg20
  z20 := Tryz.sizeOf20
  v20 := Tryz.zeroValue20
  i20 := by kernel_rfl
  t21 := Tryz.underlying21
  a21 := Tryz.isAgg21
  z21 := Tryz.sizeOf21
  v21 := Tryz.zeroValue21
  i21 := by kernel_rfl
  t22 := Tryz.underlying115
  a22 := Tryz.isAgg115
  z22 := Tryz.sizeOf115
  v22 := Tryz.zeroValue115
  i22 := by kernel_rfl
  t24 := Tryz.underlying89
  a24 := Tryz.isAgg89
  z24 := Tryz.sizeOf89
  v24 := Tryz.zeroValue89
  i24 := by kernel_rfl
  t25 := Tryz.underlying116
  a25 := Tryz.isAgg116
  z25 := Tryz.sizeOf116
  v25 := Tryz.zeroValue116
  i25 := by kernel_rfl
  t34 := Tryz.underlying138
  a34 := Tryz.isAgg138
  z34 := Tryz.sizeOf138
  v34 := Tryz.zeroValue138
  i34 := by kernel_rfl
  c34 := by kernel_rfl
  t36 := Tryz.underlying129
  a36 := Tryz.isAgg129
  z36 := Tryz.sizeOf129
  v36 := Tryz.zeroValue129
  i36 := by kernel_rfl
  t37 := Tryz.underlying84
  a37 := Tryz.isAgg84
  z37 := Tryz.sizeOf84
  v37 := Tryz.zeroValue84
  i37 := by kernel_rfl
  t39 := Tryz.underlying140
  a39 := Tryz.isAgg140
  z39 := Tryz.sizeOf140
  v39 := Tryz.zeroValue140
  i39 := by kernel_rfl
  t44 := Tryz.underlying157
  a44 := Tryz.isAgg157
  z44 := Tryz.sizeOf157
  v44 := Tryz.zeroValue157
  i44 := by kernel_rfl
  t47 := Tryz.underlying112
  a47 := Tryz.isAgg112
  z47 := Tryz.sizeOf112
  v47 := Tryz.zeroValue112
  i47 := by kernel_rfl
  t48 := Tryz.underlying162
  a48 := Tryz.isAgg162
  z48 := Tryz.sizeOf162
  v48 := Tryz.zeroValue162
  i48 := by kernel_rfl
  t50 := Tryz.underlying164
  a50 := Tryz.isAgg164
  z50 := Tryz.sizeOf164
  v50 := Tryz.zeroValue164
  i50 := by kernel_rfl
  t52 := Tryz.underlying166
  a52 := Tryz.isAgg166
  z52 := Tryz.sizeOf166
  v52 := Tryz.zeroValue166
  i52 := by kernel_rfl
  t55 := Tryz.underlying169
  a55 := Tryz.isAgg169
  z55 := Tryz.sizeOf169
  v55 := Tryz.zeroValue169
  i55 := by kernel_rfl
  t59 := Tryz.underlying172
  a59 := Tryz.isAgg172
  z59 := Tryz.sizeOf172
  v59 := Tryz.zeroValue172
  i59 := by kernel_rfl
  t60 := Tryz.underlying135
  a60 := Tryz.isAgg135
  z60 := Tryz.sizeOf135
  v60 := Tryz.zeroValue135
  i60 := by kernel_rfl
  t61 := Tryz.underlying173
  a61 := Tryz.isAgg173
  z61 := Tryz.sizeOf173
  t65 := Tryz.underlying176
  a65 := Tryz.isAgg176
  z65 := Tryz.sizeOf176
  v65 := Tryz.zeroValue176
  i65 := by kernel_rfl
  t66 := Tryz.underlying177
  a66 := Tryz.isAgg177
  z66 := Tryz.sizeOf177
  v66 := Tryz.zeroValue177
  i66 := by kernel_rfl
  t67 := Tryz.underlying92
  a67 := Tryz.isAgg92
  z67 := Tryz.sizeOf92
  v67 := Tryz.zeroValue92
  i67 := by kernel_rfl
  g0 := by kernel_rfl
  m0 := by kernel_rfl
  g1 := by kernel_rfl
  m1 := by kernel_rfl
  g2 := by kernel_rfl
  m2 := by kernel_rfl
  g3 := by kernel_rfl
  m3 := by kernel_rfl
  g4 := by kernel_rfl
  m4 := by kernel_rfl }
end Go.Proofs
namespace Go.Proofs.YtnndgmbflkdhkaaGreatDoor.Q
open Go.RowKit Go.Proofs.YtnndgmbflkdhkaaGreatDoorW.PrintWords Go.Proofs.YtnndgmbflkdhkaaGreatDoorW.PrintLast Go.Proofs.YtnndgmbflkdhkaaGreatDoorW.PrintMore Go.Proofs.YtnndgmbflkdhkaaGreatDoor.P1
theorem hasP_one (c x : UInt8) (t : List UInt8) : stringslite_HasPrefix.f (B (x :: t)) (B [c]) = some (x == c) := by
  unfold stringslite_HasPrefix.f
  rw [if_pos (by simp only [B_size, List.length_cons, List.length_nil]; omega), if_pos (by omega), if_pos (by simp only [B_size, List.length_cons, List.length_nil]; omega)]
  rw [show ((B [c]).size : Int).toNat = 1 from rfl, B_extract, B_toList, B_toList]
  simp
theorem cutP_hit (c : UInt8) (t : List UInt8) : strings_CutPrefix.f (B (c :: t)) (B [c]) = some (B t, true) := by
  unfold strings_CutPrefix.f stringslite_CutPrefix.f
  rw [hasP_one]
  simp only [Option.bind_some, beq_self_eq_true, if_true]
  rw [if_pos (by omega), if_pos (by simp only [B_size, List.length_cons, List.length_nil]; omega)]
  rw [show ((B [c]).size : Int).toNat = 1 from rfl, B_extract_end]
  rfl
theorem cutP_miss (c : UInt8) (l : List UInt8) (h : l.head? ≠ some c) : strings_CutPrefix.f (B l) (B [c]) = some (B l, false) := by
  unfold strings_CutPrefix.f stringslite_CutPrefix.f
  cases l with
  | nil =>
    unfold stringslite_HasPrefix.f
    rw [if_neg (by simp [B_size])]
    rfl
  | cons x t =>
    rw [hasP_one]
    have : (x == c) = false := by simpa using h
    rw [this]
    simp
theorem setCell_blk {W : World} {b j : Nat} {cs : Array Value} {t : TypeId} {fr : Nat × Nat} (v : Value) (h : W.heap[b]? = some (.cells cs t fr)) : (W.setCell ⟨b, j, none⟩ v).heap[b]? = some (.cells (cs.setIfInBounds j v) t fr) := by
  obtain ⟨hlt, hk⟩ := Array.getElem?_eq_some_iff.1 h
  show (W.heap.modify b _)[b]? = _
  rw [Array.getElem?_eq_getElem (by rw [Array.size_modify]; exact hlt), Array.getElem_modify_self, hk]; simp
def dig (c : UInt8) : Bool := decide (48 ≤ c.toNat) && decide (c.toNat ≤ 57)
def digs (l : List UInt8) : Nat := (l.takeWhile dig).length
theorem digs_le (l : List UInt8) : digs l ≤ l.length := (List.takeWhile_prefix _).length_le
def puVal (l : List UInt8) : Int × Bool := match Lib.parseUintB 16 l with
  | .ok u => (u, true)
  | .«syntax» => (0, false)
  | .range => (65535, false)
theorem puVal_le (l : List UInt8) : 0 ≤ (puVal l).1 ∧ (puVal l).1 ≤ 65535 := by
  unfold puVal
  cases h : Lib.parseUintB 16 l with
  | ok u => have := Lib.parseUintB_le h; exact ⟨by simp, by simp; omega⟩
  | «syntax» => exact ⟨by simp, by simp⟩
  | range => exact ⟨by simp, by simp⟩
theorem pu_calls (l : List UInt8) (hl : l.length ≤ 281474976710656) (w : World) (hT : UTabs w) :
    Calls Tryz.prog 99 #[.string (B l), .int .i64 10, .int .i64 16] w fun e w' => ∃ v : Value, e = .returned (.tuple #[.int .u64 (puVal l).1, v]) ∧
      ((puVal l).2 = true ∧ v = .nilIface ∨ (puVal l).2 = false ∧ ∃ te pe, v = .iface te pe) ∧ Below w.heap.size w w' := by
  obtain ⟨_, _, _, ⟨e1, hv1, hw1⟩, ⟨e2, hv2, hw2⟩⟩ := hT
  have hd : (B l).data.toList = l := rfl
  cases hp : Lib.parseUintB 16 l with
  | ok u =>
    refine (Any.strconv_ParseUint_10_at16_ok Tryz.laysPu_14 (B l) (by rw [B_size]; omega) u hp w).mono ?_
    rintro e w' ⟨rfl, h⟩
    refine ⟨_, by unfold puVal; rw [hp], .inl ⟨by unfold puVal; rw [hp], rfl⟩, ?_⟩
    rcases h with rfl | rfl
    · exact Below.refl _ _
    · exact Lib.bytesWorld_below _ _ _
  | «syntax» =>
    refine (Any.strconv_ParseUint_10_at16_syntax Tryz.laysPu_14 (B l) (by rw [B_size]; omega) hp e1 w hv1 hw1).mono ?_
    rintro e w' ⟨n, rfl, _, _, h⟩
    exact ⟨_, by unfold puVal; rw [hp], .inr ⟨by unfold puVal; rw [hp], _, _, rfl⟩, h⟩
  | range =>
    refine (Any.strconv_ParseUint_10_at16_range Tryz.laysPu_14 (B l) (by rw [B_size]; omega) hp e2 w hv2 hw2).mono ?_
    rintro e w' ⟨n, rfl, _, _, h⟩
    exact ⟨_, by unfold puVal; rw [hp], .inr ⟨by unfold puVal; rw [hp], _, _, rfl⟩, h⟩
/-- rest, whether it may be, Port, HasPort, AnyPort -/
def portF (p : Int) (hp ap : Bool) : List UInt8 → List UInt8 × Bool × Int × Bool × Bool
  | [] => ([], true, p, hp, ap)
  | c :: t => if c = 58 then (match t with
      | [] => ([], false, 0, true, ap)
      | d :: u => if d = 42 then (u, true, p, hp, true) else ((d :: u).drop (digs (d :: u)), (puVal ((d :: u).take (digs (d :: u)))).2 && decide (digs (d :: u) ≤ 5), (puVal ((d :: u).take (digs (d :: u)))).1, true, ap))
    else (c :: t, true, p, hp, ap)
theorem blk_keep {w w1 : World} {b : Nat} {o : Obj} (h : w.heap[b]? = some o) (hb : Below w.heap.size w w1) : w1.heap[b]? = some o := (hb.block b (Array.getElem?_eq_some_iff.1 h).1).trans h
theorem blk_lt0 {w : World} {b : Nat} {o : Obj} (h : w.heap[b]? = some o) : b < w.heap.size := (Array.getElem?_eq_some_iff.1 h).1
theorem digs_run (l : List UInt8) (k : Nat) (hk : k < digs l) : ∃ h : k < l.length, dig (l[k]'h) = true := by
  have hlt : k < l.length := Nat.lt_of_lt_of_le hk (digs_le l)
  refine ⟨hlt, ?_⟩
  have h1 : (l.takeWhile dig)[k]? = l[k]? := by
    obtain ⟨r, hr⟩ := List.takeWhile_prefix (p := dig) (l := l)
    rw [← hr, List.getElem?_append_left hk]
    congr 1
    rw [hr]
  have h2 : (l.takeWhile dig)[k]'hk ∈ l.takeWhile dig := List.getElem_mem _
  have h3 := List.all_takeWhile (p := dig) (l := l)
  rw [List.getElem?_eq_getElem hk, List.getElem?_eq_getElem hlt] at h1
  rw [← Option.some.inj h1]
  exact List.all_eq_true.1 h3 _ h2
theorem digs_stop (l : List UInt8) (h : digs l < l.length) : dig (l[digs l]'h) = false := by
  unfold digs at h ⊢
  induction l with
  | nil => simp at h
  | cons c t ih =>
    cases hc : dig c with
    | false => simp [List.takeWhile_cons, hc]
    | true =>
      simp only [List.takeWhile_cons, hc, if_true, List.length_cons] at h ⊢
      simpa using ih (by simpa using h)
theorem digit_f (c : UInt8) : csp_digit.f (c.toNat : Int) = some (dig c) := by
  unfold csp_digit.f dig
  by_cases h : 48 ≤ c.toNat
  · rw [if_pos (by omega), decide_eq_true h, Bool.true_and]
    congr 1
    exact decide_eq_decide.2 (by omega)
  · rw [if_neg (by omega), decide_eq_false h, Bool.false_and]
set_option maxHeartbeats 4000000 in
set_option maxRecDepth 100000 in
theorem port_num (t : List UInt8) (ht : t.head? ≠ some 42) (hl : t.length ≤ 1099511627776) (b base : Nat) (a0 a1 a2 a3 a7 : Value) (p : Int) (hp ap : Bool) (w : World) (hT : UTabs w) (hb : base ≤ b)
    (hx : w.heap[b]? = some (.cells #[a0, a1, a2, a3, .int .i64 p, .bool hp, .bool ap, a7] 40 (0, 0))) :
    Calls Tryz.prog 74 #[.pointer (some ⟨b, 0, none⟩), .string (B (58 :: t))] w fun e w' => e = .returned (.tuple #[.string (B (t.drop (digs t))), .bool ((puVal (t.take (digs t))).2 && decide (digs t ≤ 5))]) ∧
      w'.heap[b]? = some (.cells #[a0, a1, a2, a3, .int .i64 (puVal (t.take (digs t))).1, .bool true, .bool ap, a7] 40 (0, 0)) ∧ Below base w w' := by
  have HX := Lib.hid hx
  have HT := Lib.hid hT
  have hc := fun W => strings_CutPrefix.calls (B (58 :: t)) (B [58]) (B t) true W (cutP_hit 58 t)
  have hc2 := fun W => strings_CutPrefix.calls (B t) (B [42]) (B t) false W (cutP_miss 42 t ht)
  have hlt := blk_lt0 hx
  have HD := Lib.hid (digs_le t)
  have hsz : (B t).size = t.length := B_size t
  clear hx hT
  go_enter Tryz.func74, Tryz.ntmps74
  go_wp2_with fail
  refine (hc _).mono ?_
  rintro e w1 ⟨rfl, h1⟩
  go_wp2_with fail
  refine (hc2 _).mono ?_
  rintro e w2 ⟨rfl, h2⟩
  have HB2 := Lib.hid (h1.below.trans (h2.below.mono h1.below.size))
  clear hc hc2 h1 h2
  go_wp2_with fail
  go_loopw [9] (fun c wr => ∃ k : Nat, k ≤ digs t ∧ c = .int .i64 k ∧ Hid (Below w.heap.size w wr)) (fun c _ => digs t - (Lib.intOf c).toNat)
  case atStart => exact ⟨0, Nat.zero_le _, rfl, HB2⟩
  case round =>
    obtain ⟨k, hk, rfl, HB⟩ := hrel
    have hd := HD.out
    by_cases hkd : k < digs t
    · obtain ⟨hkt, hdk⟩ := digs_run t k hkd
      have hq : (k : Int) < (t.length : Int) := by omega
      obtain ⟨x, hx⟩ : ∃ x : UInt8, t[k]'hkt = x := ⟨_, rfl⟩
      have hix : ∀ W : World, (Instr.index 9 (.string (B t)) (.int .i64 (k : Int))).run Tryz.prog W = .ok (.int .u8 (x.toNat : Int)) W := fun W => by
        rw [run_index_string W _ _ _ _ Tryz.underlying9, dif_pos (by rw [hsz]; omega)]
        subst hx
        rfl
      rw [hx] at hdk
      clear hx
      go_wp2_with fail
      refine (csp_digit.calls (x.toNat : Int) true _ (by rw [digit_f, hdk])).mono ?_
      rintro e w3 ⟨rfl, h3⟩
      go_wp2_with fail
      exact ⟨⟨k + 1, by omega, by first | rfl | simp, Lib.hid (HB.out.trans (h3.below.mono HB.out.size))⟩, by simp [Lib.intOf]; omega⟩
    · obtain rfl : k = digs t := by omega
      have hs1 : ∀ W : World, (Instr.slice 9 (.string (B t)) none (some (.int .i64 (digs t : Int))) none).run Tryz.prog W = .ok (.string (B (t.take (digs t)))) W := fun W => by
        rw [run_slice_string_to_if W _ _ _ _ Tryz.underlying9, if_pos ⟨by omega, by rw [hsz]; omega⟩, Int.toNat_natCast, B_extract]; simp
      have hs2 : ∀ W : World, (Instr.slice 9 (.string (B t)) (some (.int .i64 (digs t : Int))) none none).run Tryz.prog W = .ok (.string (B (t.drop (digs t)))) W := fun W => by
        rw [run_slice_string_from_if W _ _ _ _ Tryz.underlying9, if_pos ⟨by omega, by rw [hsz]; omega⟩, Int.toNat_natCast, B_extract_end]
      have hpu := fun W hT => pu_calls (t.take (digs t)) (by rw [List.length_take]; omega) W hT
      clear hkd
      by_cases hkt : digs t < t.length
      · have hq : (digs t : Int) < (t.length : Int) := by omega
        have hdk := digs_stop t hkt
        obtain ⟨x, hx⟩ : ∃ x : UInt8, t[digs t]'hkt = x := ⟨_, rfl⟩
        have hix : ∀ W : World, (Instr.index 9 (.string (B t)) (.int .i64 (digs t : Int))).run Tryz.prog W = .ok (.int .u8 (x.toNat : Int)) W := fun W => by
          rw [run_index_string W _ _ _ _ Tryz.underlying9, dif_pos (by rw [hsz]; omega)]
          subst hx
          rfl
        rw [hx] at hdk
        clear hx
        go_wp2_with fail
        refine (csp_digit.calls (x.toNat : Int) false _ (by rw [digit_f, hdk])).mono ?_
        rintro e w3 ⟨rfl, h3⟩
        have HB3 := Lib.hid (HB.out.trans (h3.below.mono HB.out.size))
        clear HB h3
        generalize hn : digs t = n at *
        go_wp2_with fail
        refine (hpu _ (HT.out.below HB3.out)).mono ?_
        rintro e w4 ⟨v, rfl, hv, h4⟩
        have hb4 := HB3.out.trans (h4.mono HB3.out.size)
        have hx4 := blk_keep HX.out hb4
        have c4 : w4.cell? ⟨b, 4, none⟩ = some (.int .i64 p) := by rw [Lib.cell_of_heap hx4]; rfl
        have c5 : w4.cell? ⟨b, 5, none⟩ = some (.bool hp) := by rw [Lib.cell_of_heap hx4]; rfl
        have f4 : w4.frozen? ⟨b, 4, none⟩ = false := Lib.frozen_of_heap hx4 4
        have f5 : w4.frozen? ⟨b, 5, none⟩ = false := Lib.frozen_of_heap hx4 5
        have HX4 := Lib.hid hx4
        have HB4 := Lib.hid hb4
        clear hx4 hb4 h4
        have hlb : b < w.heap.size := hlt
        have hpl := puVal_le (t.take n)
        have hwr : wrap64 (puVal (t.take n)).1 = (puVal (t.take n)).1 := w64 (by omega) (by omega)
        clear hpl
        rcases hv with ⟨he, rfl⟩ | ⟨he, te, pe, rfl⟩
        · by_cases h5 : n ≤ 5
          · have q5 : decide ((n : Int) ≤ 5) = true := decide_eq_true (by omega)
            go_wp2_with fail
            go_region
            go_wp2
            go_ret2
            subst hn
            exact ⟨by rw [he, decide_eq_true h5]; rfl, setCell_blk (j := 5) (.bool true) (setCell_blk (j := 4) (.int .i64 (puVal (t.take (digs t))).1) HX4.out), (((HB4.out.mono (by omega)).setCell (p := ⟨b, 4, none⟩) hb _).setCell (p := ⟨b, 5, none⟩) hb _).drew⟩
          · have q5 : decide ((n : Int) ≤ 5) = false := decide_eq_false (by omega)
            go_wp2_with fail
            go_region
            go_wp2
            go_ret2
            subst hn
            exact ⟨by rw [he, decide_eq_false h5]; rfl, setCell_blk (j := 5) (.bool true) (setCell_blk (j := 4) (.int .i64 (puVal (t.take (digs t))).1) HX4.out), (((HB4.out.mono (by omega)).setCell (p := ⟨b, 4, none⟩) hb _).setCell (p := ⟨b, 5, none⟩) hb _).drew⟩
        · go_wp2_with fail
          go_region
          go_wp2
          go_ret2
          subst hn
          exact ⟨by rw [he]; rfl, setCell_blk (j := 5) (.bool true) (setCell_blk (j := 4) (.int .i64 (puVal (t.take (digs t))).1) HX4.out), (((HB4.out.mono (by omega)).setCell (p := ⟨b, 4, none⟩) hb _).setCell (p := ⟨b, 5, none⟩) hb _).drew⟩
      · have hq : ¬ (digs t : Int) < (t.length : Int) := by omega
        have HB3 := HB
        clear HB
        generalize hn : digs t = n at *
        go_wp2_with fail
        refine (hpu _ (HT.out.below HB3.out)).mono ?_
        rintro e w4 ⟨v, rfl, hv, h4⟩
        have hb4 := HB3.out.trans (h4.mono HB3.out.size)
        have hx4 := blk_keep HX.out hb4
        have c4 : w4.cell? ⟨b, 4, none⟩ = some (.int .i64 p) := by rw [Lib.cell_of_heap hx4]; rfl
        have c5 : w4.cell? ⟨b, 5, none⟩ = some (.bool hp) := by rw [Lib.cell_of_heap hx4]; rfl
        have f4 : w4.frozen? ⟨b, 4, none⟩ = false := Lib.frozen_of_heap hx4 4
        have f5 : w4.frozen? ⟨b, 5, none⟩ = false := Lib.frozen_of_heap hx4 5
        have HX4 := Lib.hid hx4
        have HB4 := Lib.hid hb4
        clear hx4 hb4 h4
        have hlb : b < w.heap.size := hlt
        have hpl := puVal_le (t.take n)
        have hwr : wrap64 (puVal (t.take n)).1 = (puVal (t.take n)).1 := w64 (by omega) (by omega)
        clear hpl
        rcases hv with ⟨he, rfl⟩ | ⟨he, te, pe, rfl⟩
        · by_cases h5 : n ≤ 5
          · have q5 : decide ((n : Int) ≤ 5) = true := decide_eq_true (by omega)
            go_wp2_with fail
            go_region
            go_wp2
            go_ret2
            subst hn
            exact ⟨by rw [he, decide_eq_true h5]; rfl, setCell_blk (j := 5) (.bool true) (setCell_blk (j := 4) (.int .i64 (puVal (t.take (digs t))).1) HX4.out), (((HB4.out.mono (by omega)).setCell (p := ⟨b, 4, none⟩) hb _).setCell (p := ⟨b, 5, none⟩) hb _).drew⟩
          · have q5 : decide ((n : Int) ≤ 5) = false := decide_eq_false (by omega)
            go_wp2_with fail
            go_region
            go_wp2
            go_ret2
            subst hn
            exact ⟨by rw [he, decide_eq_false h5]; rfl, setCell_blk (j := 5) (.bool true) (setCell_blk (j := 4) (.int .i64 (puVal (t.take (digs t))).1) HX4.out), (((HB4.out.mono (by omega)).setCell (p := ⟨b, 4, none⟩) hb _).setCell (p := ⟨b, 5, none⟩) hb _).drew⟩
        · go_wp2_with fail
          go_region
          go_wp2
          go_ret2
          subst hn
          exact ⟨by rw [he]; rfl, setCell_blk (j := 5) (.bool true) (setCell_blk (j := 4) (.int .i64 (puVal (t.take (digs t))).1) HX4.out), (((HB4.out.mono (by omega)).setCell (p := ⟨b, 4, none⟩) hb _).setCell (p := ⟨b, 5, none⟩) hb _).drew⟩
set_option maxHeartbeats 4000000 in
set_option maxRecDepth 100000 in
theorem port_calls (l : List UInt8) (hl : l.length ≤ 1099511627776) (b base : Nat) (a0 a1 a2 a3 a7 : Value) (p : Int) (hp ap : Bool) (w : World) (hT : UTabs w) (hb : base ≤ b)
    (hx : w.heap[b]? = some (.cells #[a0, a1, a2, a3, .int .i64 p, .bool hp, .bool ap, a7] 40 (0, 0))) :
    Calls Tryz.prog 74 #[.pointer (some ⟨b, 0, none⟩), .string (B l)] w fun e w' => e = .returned (.tuple #[.string (B (portF p hp ap l).1), .bool (portF p hp ap l).2.1]) ∧
      w'.heap[b]? = some (.cells #[a0, a1, a2, a3, .int .i64 (portF p hp ap l).2.2.1, .bool (portF p hp ap l).2.2.2.1, .bool (portF p hp ap l).2.2.2.2, a7] 40 (0, 0)) ∧ Below base w w' := by
  have HX := Lib.hid hx
  have HT := Lib.hid hT
  have hlt := blk_lt0 hx
  clear hx hT
  cases l with
  | nil =>
    have hc := fun W => strings_CutPrefix.calls (B []) (B [58]) (B []) false W (cutP_miss 58 [] (by simp))
    go_enter Tryz.func74, Tryz.ntmps74
    go_wp2_with fail
    refine (hc _).mono ?_
    rintro e w1 ⟨rfl, h1⟩
    go_wp2
    go_ret2
    exact ⟨rfl, blk_keep HX.out h1.below, h1.below.mono (by omega)⟩
  | cons c t =>
    by_cases hcc : c = 58
    · subst hcc
      cases t with
      | nil => exact port_num [] (by simp) (by simp) b base a0 a1 a2 a3 a7 p hp ap w HT.out hb HX.out
      | cons d u =>
        by_cases hdd : d = 42
        · subst hdd
          have hc := fun W => strings_CutPrefix.calls (B (58 :: 42 :: u)) (B [58]) (B (42 :: u)) true W (cutP_hit 58 (42 :: u))
          have hc2 := fun W => strings_CutPrefix.calls (B (42 :: u)) (B [42]) (B u) true W (cutP_hit 42 u)
          go_enter Tryz.func74, Tryz.ntmps74
          go_wp2_with fail
          refine (hc _).mono ?_
          rintro e w1 ⟨rfl, h1⟩
          go_wp2_with fail
          refine (hc2 _).mono ?_
          rintro e w2 ⟨rfl, h2⟩
          have hb2 : Below w.heap.size w w2 := h1.below.trans (h2.below.mono h1.below.size)
          have hx2 := blk_keep HX.out hb2
          have c6 : w2.cell? ⟨b, 6, none⟩ = some (.bool ap) := by rw [Lib.cell_of_heap hx2]; rfl
          have f6 : w2.frozen? ⟨b, 6, none⟩ = false := Lib.frozen_of_heap hx2 6
          have HX2 := Lib.hid hx2
          have HB2 := Lib.hid hb2
          clear hc hc2 h1 h2 hx2 hb2
          go_wp2
          go_ret2
          exact ⟨rfl, setCell_blk _ HX2.out, (HB2.out.mono (by omega)).setCell (p := ⟨b, 6, none⟩) hb _⟩
        · have hpf : portF p hp ap (58 :: d :: u) = ((d :: u).drop (digs (d :: u)), (puVal ((d :: u).take (digs (d :: u)))).2 && decide (digs (d :: u) ≤ 5), (puVal ((d :: u).take (digs (d :: u)))).1, true, ap) := by
            simp [portF, hdd]
          rw [hpf]
          exact port_num (d :: u) (by simpa using hdd) (by simp at hl ⊢; omega) b base a0 a1 a2 a3 a7 p hp ap w HT.out hb HX.out
    · have hc := fun W => strings_CutPrefix.calls (B (c :: t)) (B [58]) (B (c :: t)) false W (cutP_miss 58 (c :: t) (by simpa using hcc))
      have hpf : portF p hp ap (c :: t) = (c :: t, true, p, hp, ap) := by simp [portF, hcc]
      rw [hpf]
      go_enter Tryz.func74, Tryz.ntmps74
      go_wp2_with fail
      refine (hc _).mono ?_
      rintro e w1 ⟨rfl, h1⟩
      go_wp2
      go_ret2
      exact ⟨rfl, blk_keep HX.out h1.below, h1.below.mono (by omega)⟩
end Go.Proofs.YtnndgmbflkdhkaaGreatDoor.Q
