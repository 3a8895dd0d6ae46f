/- addr.V4: an address of four bytes, as it is read. -/
import Derived.Test.YtkabhnbjjnjdhaaDoorSAPcs
set_option linter.unusedSimpArgs false
set_option linter.unusedVariables false
namespace Go.Proofs.YtkabhnbjjnjdhaaDoor.Q
open Go.RowKit Go.Proofs.YtkabhnbjjnjdhaaDoorW.PrintWords Go.Proofs.YtkabhnbjjnjdhaaDoorW.PrintLast Go.Proofs.YtkabhnbjjnjdhaaDoorW.PrintMore Go.Proofs.YtkabhnbjjnjdhaaDoor.Ad
theorem or64 (i : Nat) (hi : i ≤ 63) {x y : Int} (hx0 : 0 ≤ x) (hx1 : x % 2 ^ i = 0) (hx2 : x < 9223372036854775808) (hy : 0 ≤ y ∧ y < 2 ^ i) : Go.bits .or .u64 x y = x + y :=
  bits_join .u64 63 (by decide) (fun n h0 h1 => by rw [IntKind.wrap_u64]; omega) i x y hx0 hx1 hx2 hy.1 hy.2 (Int.lt_of_lt_of_le hy.2 (by exact_mod_cast Nat.pow_le_pow_right (by omega) hi))
theorem numAns_B (b : Nat) (hb : 0 < b) (t : ByteArray) : numAns b (allD b t.data.toList) t = match numB b t.data.toList with
  | none => (0, false)
  | some m => ((m : Int), true) := by
  unfold numB
  cases ha : allD b t.data.toList with
  | false => rw [numAns_no rfl, if_neg (by decide)]
  | true =>
    rw [if_pos rfl]
    by_cases h0 : t.size = 0
    · rw [numAns_empty h0]
      obtain rfl := tl_em h0
      rfl
    · have hne : t.data.toList ≠ [] := fun h => h0 (by rw [Lib.size_eq, h]; rfl)
      have hpu : puAll b 18446744073709551615 t.data.toList = if valF b 0 t.data.toList ≤ 18446744073709551615 then .ok (valF b 0 t.data.toList) else .range := by
        unfold puAll
        rw [if_neg hne]
        exact puL_ok hb _ 0 (by omega) ha
      show _ = (((capN (val b t.data.toList) : Nat) : Int), true)
      unfold capN val
      by_cases hv : valF b 0 t.data.toList ≤ 18446744073709551615
      · rw [if_pos hv] at hpu ⊢
        exact numAns_ok h0 hpu
      · rw [if_neg hv] at hpu ⊢
        exact numAns_big h0 (fun n hn => by rw [hpu] at hn; cases hn)
theorem x_tab : ∀ c : Fin 256, (Go.bits .or .u8 ((c.val : Nat) : Int) 32 = 120) ↔ (c.val = 120 ∨ c.val = 88) := by decide +kernel
theorem bt_list (s : ByteArray) (i : Nat) : bt s (i : Int) = ((s.data.toList.getD i 0).toNat : Int) := by
  have := B_bt s.data.toList (i : Int)
  rw [Int.toNat_natCast] at this
  exact this
theorem numP_eq (s : ByteArray) : numP s = match numL s.data.toList with
  | none => (0, false)
  | some m => ((m : Int), true) := by
  have hsz : s.size = s.data.toList.length := Lib.size_eq s
  unfold numL
  by_cases h0 : s.data.toList = []
  · rw [if_pos h0]
    have hz : s.size = 0 := by rw [hsz, h0]; rfl
    unfold numP
    rw [if_neg (fun h => by have := h.1; omega), if_neg (fun h => by have := h.1; omega), decide_eq_false (by omega)]
    exact numAns_no rfl
  · rw [if_neg h0]
    have hnz : s.size ≠ 0 := by rw [hsz]; exact fun h => h0 (List.eq_nil_of_length_eq_zero h)
    have hc : ∀ i : Nat, ∀ k : Nat, k < 256 → (bt s (i : Int) = k ↔ s.data.toList.getD i 0 = UInt8.ofNat k) := fun i k hk => by
      rw [bt_list s i]
      constructor
      · intro h
        have : (s.data.toList.getD i 0).toNat = k := by omega
        rw [← this, UInt8.ofNat_toNat]
      · intro h
        rw [h, UInt8.toNat_ofNat_of_lt' hk]
    have hd : ∀ k, (s.extract k s.size).data.toList = s.data.toList.drop k := fun k => by rw [Lib.extract_data, List.take_of_length_le (by rw [List.length_drop]; omega)]
    unfold numP
    by_cases ho : 1 < s.data.toList.length ∧ s.data.toList.getD 0 0 = 48
    · rw [if_pos ho]
      have hs1 : 1 < s.size := by omega
      have hb0 : bt s 0 = 48 := (hc 0 48 (by omega)).2 ho.2
      have hx : (Go.bits .or .u8 (bt s 1) 32 = 120) ↔ (s.data.toList.getD 1 0 = 120 ∨ s.data.toList.getD 1 0 = 88) := by
        have h1 := bt_list s 1
        rw [show ((1 : Nat) : Int) = 1 from rfl] at h1
        rw [h1]
        have h2 := x_tab ⟨(s.data.toList.getD 1 0).toNat, UInt8.toNat_lt _⟩
        rw [h2]
        constructor
        · rintro (h | h)
          · left; exact UInt8.toNat_inj.1 h
          · right; exact UInt8.toNat_inj.1 h
        · rintro (h | h)
          · left; show (s.data.toList.getD 1 0).toNat = _; rw [h]; rfl
          · right; show (s.data.toList.getD 1 0).toNat = _; rw [h]; rfl
      by_cases hxx : s.data.toList.getD 1 0 = 120 ∨ s.data.toList.getD 1 0 = 88
      · rw [if_pos hxx, if_pos ⟨hs1, hb0, hx.2 hxx⟩, all_hex, numAns_B 16 (by omega), hd 2]
      · rw [if_neg hxx, if_neg (fun h => hxx (hx.1 h.2.2)), if_pos ⟨hs1, hb0⟩, all_oct, numAns_B 8 (by omega), hd 1]
    · rw [if_neg ho]
      have hno : ¬ isOct s := fun h => ho ⟨by have := h.1; omega, (hc 0 48 (by omega)).1 h.2⟩
      rw [if_neg (fun h => hno ⟨h.1, h.2.1⟩), if_neg hno, decide_eq_true hnz, Bool.true_and, all_dec, numAns_B 10 (by omega)]
theorem v4_no {n i s : Nat} {p : List UInt8} {r : List (List UInt8)} (h : numL p = none) : v4F n i s (p :: r) = none := by unfold v4F; rw [h]
theorem v4_last {n i s m : Nat} {p : List UInt8} {r : List (List UInt8)} (h : numL p = some m) (hr : r.isEmpty = true) (hm : m / 2 ^ (8 * (5 - n)) = 0) : v4F n i s (p :: r) = v4F n (i + 1) (s + m) r := by
  obtain rfl := List.isEmpty_iff.1 hr
  unfold v4F
  rw [h]
  simp only [List.isEmpty_nil, if_true]
  rw [if_pos hm]
theorem v4_big {n i s m : Nat} {p : List UInt8} {r : List (List UInt8)} (h : numL p = some m) (hr : r.isEmpty = true) (hm : m / 2 ^ (8 * (5 - n)) ≠ 0) : v4F n i s (p :: r) = none := by
  unfold v4F
  rw [h]
  simp only [hr, if_true]
  rw [if_neg hm]
theorem v4_more {n i s m : Nat} {p : List UInt8} {r : List (List UInt8)} (h : numL p = some m) (hr : r.isEmpty = false) (hm : m ≤ 255) : v4F n i s (p :: r) = v4F n (i + 1) (s + m * 2 ^ (8 * (3 - i))) r := by
  conv => lhs; unfold v4F
  rw [h]
  simp only [hr]
  rw [if_neg (by decide), if_pos hm]
theorem v4_many {n i s m : Nat} {p : List UInt8} {r : List (List UInt8)} (h : numL p = some m) (hr : r.isEmpty = false) (hm : ¬ m ≤ 255) : v4F n i s (p :: r) = none := by
  unfold v4F
  rw [h]
  simp only [hr]
  rw [if_neg (by decide), if_neg hm]
def v4n (o : Option Nat) : Int := ((o.getD 0 : Nat) : Int)
def v4e (o : Option Nat) : Int := if o.isSome then 0 else 17
set_option maxHeartbeats 32000000 in
theorem v4_calls (s : ByteArray) (hs : s.size ≤ 1000000000) (w : World) (hT : UTabs w) :
    Calls Tryd.prog 10 #[.string s] w fun e w' => e = .returned (.tuple #[.int .u32 (v4n (v4L s.data.toList)), .int .i64 (v4e (v4L s.data.toList))]) ∧ Below w.heap.size w w' := by
  have e23 : ∀ args w, (callFunc 23 args).run Tryd.prog w = .ok (.enter 23 args) w := enters_of Tryd.func23 (by kernel_rfl) rfl
  have e24 : ∀ args w, (callFunc 24 args).run Tryd.prog w = .ok (.enter 24 args) w := enters_of Tryd.func24 (by kernel_rfl) rfl
  have hparts := addr_parts.calls s (partsB s) w hT (parts_f hs)
  have hv : v4L s.data.toList = if (partsD s.data.toList).length ≤ 4 then v4F (partsD s.data.toList).length 0 0 (partsD s.data.toList) else none := rfl
  have hpm : ∀ p ∈ partsD s.data.toList, p.length ≤ 1000000000 := fun p hp => by
    have := parts_mem 46 _ p (partsD_mem hp)
    rw [← Lib.size_eq] at this
    omega
  have hpos : 0 < (partsD s.data.toList).length := List.length_pos_iff.2 (cutLast_ne (parts_ne 46 _))
  have hpl : (partsD s.data.toList).length ≤ 1000000001 := by
    have := parts_len 46 s.data.toList
    rw [← Lib.size_eq] at this
    unfold partsD cutLast
    split
    · rw [List.length_dropLast]; omega
    · omega
  unfold partsB at hparts
  generalize partsD s.data.toList = ps at *
  generalize v4L s.data.toList = o at *
  have HT := Lib.hid hT
  have HM := Lib.hid hpm
  have HV := Lib.hid hv
  obtain ⟨n, hn⟩ : ∃ n, n = ps.length := ⟨_, rfl⟩
  rw [← hn] at hpos hpl
  have HN := Lib.hid hn
  clear hT hpm hv hn
  go_enter Tryd.func10, Tryd.ntmps10
  go_wp2_with fail
  refine hparts.mono ?_
  rintro e w1 ⟨v, rfl, hR, hb1⟩
  obtain ⟨A, c, rfl, hle, hC⟩ := Kd.R_reads hR
  have hml : (ps.map B).length = n := by rw [List.length_map, HN.out]
  rw [hml] at hle hC ⊢
  obtain ⟨b, oo, rfl, hbl, hcell⟩ := strAt hC hpos
  have HB1 := Lib.hid hb1
  have HC := Lib.hid hcell
  have hbl' : b < w1.heap.size := hbl
  have HBL := Lib.hid hbl'
  clear hb1 hC hR hcell hml hbl hbl' hparts
  by_cases h4 : n ≤ 4
  · have h4z : (n : Int) ≤ 4 := by omega
    have hv : o = v4F n 0 0 ps := by rw [HV.out, ← HN.out, if_pos h4]
    have HO := Lib.hid hv
    clear hv
    go_wp2
    go_loopg [5, 6, 7, 8, 9, 10, 18, 40, 63] n (fun gg s5 _ _ _ _ _ s18 _ _ wr => ∃ (sum kk : Nat), s5 = .int .u64 sum ∧ s18 = .int .i64 kk ∧ Hid ((kk ≤ n ∧ n - kk ≤ gg) ∧ o = v4F n kk sum (ps.drop kk) ∧ (kk < n → sum % 2 ^ (8 * (4 - kk)) = 0) ∧ sum < 4294967296) ∧ Hid (Below w.heap.size w wr) ∧ Hid (Below w1.heap.size w1 wr))
    case atStart => exact ⟨0, 0, rfl, rfl, Lib.hid ⟨⟨by omega, by omega⟩, HO.out, fun _ => by omega, by omega⟩, HB1, Lib.hid (Below.refl _ _)⟩
    case round =>
      obtain ⟨sum, kk, rfl, rfl, HI, HW, HW1⟩ := hrel
      by_cases hlt : kk < n
      · have hltz : (kk : Int) < n := by omega
        have hc1 : wr.cell? ⟨b, oo + kk, none⟩ = some (.string ((ps.map B).getD kk ByteArray.empty)) := (HW1.out.cell HBL.out).trans (HC.out kk hlt)
        obtain ⟨p, hp⟩ : ∃ p, ps[kk]? = some p := ⟨ps[kk]'(by rw [← HN.out]; exact hlt), List.getElem?_eq_getElem _⟩
        have hpe : (ps.map B).getD kk ByteArray.empty = B p := by rw [List.getD_eq_getElem?_getD, List.getElem?_map, hp]; rfl
        have hpm := HM.out p (List.mem_of_getElem? hp)
        have hps : (B p).size ≤ 1000000000 := by rw [show (B p).size = p.length from Lib.size_eq _]; omega
        have hdrop : ps.drop kk = p :: ps.drop (kk + 1) := by
          obtain ⟨hk, rfl⟩ := List.getElem?_eq_some_iff.1 hp
          exact List.drop_eq_getElem_cons hk
        have hlast : (ps.drop (kk + 1)).isEmpty = decide (kk + 1 = n) := by
          by_cases e : kk + 1 = n
          · rw [decide_eq_true e, List.isEmpty_iff, List.drop_eq_nil_iff, ← HN.out]; omega
          · rw [decide_eq_false e, Bool.eq_false_iff]
            intro h
            rw [List.isEmpty_iff, List.drop_eq_nil_iff, ← HN.out] at h
            omega
        rw [hpe] at hc1
        have hTW : UTabs wr := hT_of HT.out HW.out
        have hnum := number_calls0 (B p) hps wr hTW
        rw [numP_eq, show (B p).data.toList = p from rfl] at hnum
        have HDR := Lib.hid hdrop
        obtain ⟨nm, hnm⟩ : ∃ nm, numL p = nm := ⟨_, rfl⟩
        rw [hnm] at hnum
        have HNM := Lib.hid hnm
        generalize B p = x at *
        have hi := HI.out.1
        have hgg : n - (kk + 1) < gk := by omega
        clear hpe hpm hps hp hTW hdrop hnm hi
        cases nm with
        | none =>
          have hst : o = none := by rw [HI.out.2.1, HDR.out]; exact v4_no HNM.out
          have HST := Lib.hid hst
          clear hst hgg hlast
          go_wp2_with fail
          refine hnum.mono ?_
          rintro e w2 ⟨rfl, hb2⟩
          go_wp2
          go_ret2
          rw [HST.out]
          exact ⟨rfl, HW.out.trans (hb2.mono HW.out.size)⟩
        | some m =>
          go_wp2_with fail
          refine hnum.mono ?_
          rintro e w2 ⟨rfl, hb2⟩
          have HB2 := Lib.hid (HW.out.trans (hb2.mono HW.out.size))
          have HB12 := Lib.hid (HW1.out.trans (hb2.mono HW1.out.size))
          clear hb2 hnum
          have hcomb : (n = 1 ∧ kk = 0) ∨ (n = 2 ∧ kk = 0) ∨ (n = 2 ∧ kk = 1) ∨ (n = 3 ∧ kk = 0) ∨ (n = 3 ∧ kk = 1) ∨ (n = 3 ∧ kk = 2) ∨ (n = 4 ∧ kk = 0) ∨ (n = 4 ∧ kk = 1) ∨ (n = 4 ∧ kk = 2) ∨ (n = 4 ∧ kk = 3) := by omega
          rcases hcomb with ⟨rfl, rfl⟩ | ⟨rfl, rfl⟩ | ⟨rfl, rfl⟩ | ⟨rfl, rfl⟩ | ⟨rfl, rfl⟩ | ⟨rfl, rfl⟩ | ⟨rfl, rfl⟩ | ⟨rfl, rfl⟩ | ⟨rfl, rfl⟩ | ⟨rfl, rfl⟩
          · obtain ⟨hs1, hs2⟩ : sum % 4294967296 = 0 ∧ sum < 4294967296 := ⟨HI.out.2.2.1 (by omega), HI.out.2.2.2⟩
            by_cases hm : m < 4294967296
            · have hor : Go.bits .or .u64 (sum : Int) (m : Int) = (sum : Int) + (m : Int) := or64 32 (by decide) (by omega) (by omega) (by omega) (by omega)
              have hdv : (m : Int) / 4294967296 = 0 := by omega
              have hst : o = v4F 1 1 (sum + m) (ps.drop 1) := by
                rw [HI.out.2.1, HDR.out]
                exact v4_last HNM.out (by rw [hlast]; rfl) (by omega)
              have HST := Lib.hid hst
              clear hs1 hst hlast
              go_wp2
              go_roundg (1 - 1)
              case measure => exact hgg
              case rel =>
                obtain ⟨hs1, hs2⟩ : sum % 4294967296 = 0 ∧ sum < 4294967296 := ⟨HI.out.2.2.1 (by omega), HI.out.2.2.2⟩
                clear hor
                exact ⟨sum + m, 1, by go_num, by go_num, Lib.hid ⟨by omega, HST.out, fun _ => by omega, by omega⟩, HB2, HB12⟩
            · have hdv : ((m : Int) / 4294967296 == 0) = false := by rw [beq_eq_false_iff_ne]; omega
              have hdn : ((m : Int) / 4294967296 != 0) = true := by rw [bne_iff_ne]; omega
              have hst : o = none := by
                rw [HI.out.2.1, HDR.out]
                exact v4_big HNM.out (by rw [hlast]; rfl) (by omega)
              have HST := Lib.hid hst
              clear hs1 hst hlast
              go_wp2
              go_ret2
              rw [HST.out]
              exact ⟨rfl, HB2.out⟩
          · obtain ⟨hs1, hs2⟩ : sum % 4294967296 = 0 ∧ sum < 4294967296 := ⟨HI.out.2.2.1 (by omega), HI.out.2.2.2⟩
            by_cases hm : m ≤ 255
            · have hor : Go.bits .or .u64 (sum : Int) ((m : Int) * 16777216) = (sum : Int) + (m : Int) * 16777216 := or64 32 (by decide) (by omega) (by omega) (by omega) (by omega)
              have hst : o = v4F 2 1 (sum + m * 16777216) (ps.drop 1) := by
                rw [HI.out.2.1, HDR.out]
                exact v4_more HNM.out (by rw [hlast]; rfl) hm
              have HST := Lib.hid hst
              clear hs1 hst hlast
              go_wp2
              go_roundg (2 - 1)
              case measure => exact hgg
              case rel =>
                obtain ⟨hs1, hs2⟩ : sum % 4294967296 = 0 ∧ sum < 4294967296 := ⟨HI.out.2.2.1 (by omega), HI.out.2.2.2⟩
                clear hor
                exact ⟨sum + m * 16777216, 1, by go_num, by go_num, Lib.hid ⟨by omega, HST.out, fun _ => by omega, by omega⟩, HB2, HB12⟩
            · have hst : o = none := by
                rw [HI.out.2.1, HDR.out]
                exact v4_many HNM.out (by rw [hlast]; rfl) (by omega)
              have HST := Lib.hid hst
              clear hs1 hst hlast
              go_wp2
              go_ret2
              rw [HST.out]
              exact ⟨rfl, HB2.out⟩
          · obtain ⟨hs1, hs2⟩ : sum % 16777216 = 0 ∧ sum < 4294967296 := ⟨HI.out.2.2.1 (by omega), HI.out.2.2.2⟩
            by_cases hm : m < 16777216
            · have hor : Go.bits .or .u64 (sum : Int) (m : Int) = (sum : Int) + (m : Int) := or64 24 (by decide) (by omega) (by omega) (by omega) (by omega)
              have hdv : (m : Int) / 16777216 = 0 := by omega
              have hst : o = v4F 2 2 (sum + m) (ps.drop 2) := by
                rw [HI.out.2.1, HDR.out]
                exact v4_last HNM.out (by rw [hlast]; rfl) (by omega)
              have HST := Lib.hid hst
              clear hs1 hst hlast
              go_wp2
              go_roundg (2 - 2)
              case measure => exact hgg
              case rel =>
                obtain ⟨hs1, hs2⟩ : sum % 16777216 = 0 ∧ sum < 4294967296 := ⟨HI.out.2.2.1 (by omega), HI.out.2.2.2⟩
                clear hor
                exact ⟨sum + m, 2, by go_num, by go_num, Lib.hid ⟨by omega, HST.out, fun _ => by omega, by omega⟩, HB2, HB12⟩
            · have hdv : ((m : Int) / 16777216 == 0) = false := by rw [beq_eq_false_iff_ne]; omega
              have hdn : ((m : Int) / 16777216 != 0) = true := by rw [bne_iff_ne]; omega
              have hst : o = none := by
                rw [HI.out.2.1, HDR.out]
                exact v4_big HNM.out (by rw [hlast]; rfl) (by omega)
              have HST := Lib.hid hst
              clear hs1 hst hlast
              go_wp2
              go_ret2
              rw [HST.out]
              exact ⟨rfl, HB2.out⟩
          · obtain ⟨hs1, hs2⟩ : sum % 4294967296 = 0 ∧ sum < 4294967296 := ⟨HI.out.2.2.1 (by omega), HI.out.2.2.2⟩
            by_cases hm : m ≤ 255
            · have hor : Go.bits .or .u64 (sum : Int) ((m : Int) * 16777216) = (sum : Int) + (m : Int) * 16777216 := or64 32 (by decide) (by omega) (by omega) (by omega) (by omega)
              have hst : o = v4F 3 1 (sum + m * 16777216) (ps.drop 1) := by
                rw [HI.out.2.1, HDR.out]
                exact v4_more HNM.out (by rw [hlast]; rfl) hm
              have HST := Lib.hid hst
              clear hs1 hst hlast
              go_wp2
              go_roundg (3 - 1)
              case measure => exact hgg
              case rel =>
                obtain ⟨hs1, hs2⟩ : sum % 4294967296 = 0 ∧ sum < 4294967296 := ⟨HI.out.2.2.1 (by omega), HI.out.2.2.2⟩
                clear hor
                exact ⟨sum + m * 16777216, 1, by go_num, by go_num, Lib.hid ⟨by omega, HST.out, fun _ => by omega, by omega⟩, HB2, HB12⟩
            · have hst : o = none := by
                rw [HI.out.2.1, HDR.out]
                exact v4_many HNM.out (by rw [hlast]; rfl) (by omega)
              have HST := Lib.hid hst
              clear hs1 hst hlast
              go_wp2
              go_ret2
              rw [HST.out]
              exact ⟨rfl, HB2.out⟩
          · obtain ⟨hs1, hs2⟩ : sum % 16777216 = 0 ∧ sum < 4294967296 := ⟨HI.out.2.2.1 (by omega), HI.out.2.2.2⟩
            by_cases hm : m ≤ 255
            · have hor : Go.bits .or .u64 (sum : Int) ((m : Int) * 65536) = (sum : Int) + (m : Int) * 65536 := or64 24 (by decide) (by omega) (by omega) (by omega) (by omega)
              have hst : o = v4F 3 2 (sum + m * 65536) (ps.drop 2) := by
                rw [HI.out.2.1, HDR.out]
                exact v4_more HNM.out (by rw [hlast]; rfl) hm
              have HST := Lib.hid hst
              clear hs1 hst hlast
              go_wp2
              go_roundg (3 - 2)
              case measure => exact hgg
              case rel =>
                obtain ⟨hs1, hs2⟩ : sum % 16777216 = 0 ∧ sum < 4294967296 := ⟨HI.out.2.2.1 (by omega), HI.out.2.2.2⟩
                clear hor
                exact ⟨sum + m * 65536, 2, by go_num, by go_num, Lib.hid ⟨by omega, HST.out, fun _ => by omega, by omega⟩, HB2, HB12⟩
            · have hst : o = none := by
                rw [HI.out.2.1, HDR.out]
                exact v4_many HNM.out (by rw [hlast]; rfl) (by omega)
              have HST := Lib.hid hst
              clear hs1 hst hlast
              go_wp2
              go_ret2
              rw [HST.out]
              exact ⟨rfl, HB2.out⟩
          · obtain ⟨hs1, hs2⟩ : sum % 65536 = 0 ∧ sum < 4294967296 := ⟨HI.out.2.2.1 (by omega), HI.out.2.2.2⟩
            by_cases hm : m < 65536
            · have hor : Go.bits .or .u64 (sum : Int) (m : Int) = (sum : Int) + (m : Int) := or64 16 (by decide) (by omega) (by omega) (by omega) (by omega)
              have hdv : (m : Int) / 65536 = 0 := by omega
              have hst : o = v4F 3 3 (sum + m) (ps.drop 3) := by
                rw [HI.out.2.1, HDR.out]
                exact v4_last HNM.out (by rw [hlast]; rfl) (by omega)
              have HST := Lib.hid hst
              clear hs1 hst hlast
              go_wp2
              go_roundg (3 - 3)
              case measure => exact hgg
              case rel =>
                obtain ⟨hs1, hs2⟩ : sum % 65536 = 0 ∧ sum < 4294967296 := ⟨HI.out.2.2.1 (by omega), HI.out.2.2.2⟩
                clear hor
                exact ⟨sum + m, 3, by go_num, by go_num, Lib.hid ⟨by omega, HST.out, fun _ => by omega, by omega⟩, HB2, HB12⟩
            · have hdv : ((m : Int) / 65536 == 0) = false := by rw [beq_eq_false_iff_ne]; omega
              have hdn : ((m : Int) / 65536 != 0) = true := by rw [bne_iff_ne]; omega
              have hst : o = none := by
                rw [HI.out.2.1, HDR.out]
                exact v4_big HNM.out (by rw [hlast]; rfl) (by omega)
              have HST := Lib.hid hst
              clear hs1 hst hlast
              go_wp2
              go_ret2
              rw [HST.out]
              exact ⟨rfl, HB2.out⟩
          · obtain ⟨hs1, hs2⟩ : sum % 4294967296 = 0 ∧ sum < 4294967296 := ⟨HI.out.2.2.1 (by omega), HI.out.2.2.2⟩
            by_cases hm : m ≤ 255
            · have hor : Go.bits .or .u64 (sum : Int) ((m : Int) * 16777216) = (sum : Int) + (m : Int) * 16777216 := or64 32 (by decide) (by omega) (by omega) (by omega) (by omega)
              have hst : o = v4F 4 1 (sum + m * 16777216) (ps.drop 1) := by
                rw [HI.out.2.1, HDR.out]
                exact v4_more HNM.out (by rw [hlast]; rfl) hm
              have HST := Lib.hid hst
              clear hs1 hst hlast
              go_wp2
              go_roundg (4 - 1)
              case measure => exact hgg
              case rel =>
                obtain ⟨hs1, hs2⟩ : sum % 4294967296 = 0 ∧ sum < 4294967296 := ⟨HI.out.2.2.1 (by omega), HI.out.2.2.2⟩
                clear hor
                exact ⟨sum + m * 16777216, 1, by go_num, by go_num, Lib.hid ⟨by omega, HST.out, fun _ => by omega, by omega⟩, HB2, HB12⟩
            · have hst : o = none := by
                rw [HI.out.2.1, HDR.out]
                exact v4_many HNM.out (by rw [hlast]; rfl) (by omega)
              have HST := Lib.hid hst
              clear hs1 hst hlast
              go_wp2
              go_ret2
              rw [HST.out]
              exact ⟨rfl, HB2.out⟩
          · obtain ⟨hs1, hs2⟩ : sum % 16777216 = 0 ∧ sum < 4294967296 := ⟨HI.out.2.2.1 (by omega), HI.out.2.2.2⟩
            by_cases hm : m ≤ 255
            · have hor : Go.bits .or .u64 (sum : Int) ((m : Int) * 65536) = (sum : Int) + (m : Int) * 65536 := or64 24 (by decide) (by omega) (by omega) (by omega) (by omega)
              have hst : o = v4F 4 2 (sum + m * 65536) (ps.drop 2) := by
                rw [HI.out.2.1, HDR.out]
                exact v4_more HNM.out (by rw [hlast]; rfl) hm
              have HST := Lib.hid hst
              clear hs1 hst hlast
              go_wp2
              go_roundg (4 - 2)
              case measure => exact hgg
              case rel =>
                obtain ⟨hs1, hs2⟩ : sum % 16777216 = 0 ∧ sum < 4294967296 := ⟨HI.out.2.2.1 (by omega), HI.out.2.2.2⟩
                clear hor
                exact ⟨sum + m * 65536, 2, by go_num, by go_num, Lib.hid ⟨by omega, HST.out, fun _ => by omega, by omega⟩, HB2, HB12⟩
            · have hst : o = none := by
                rw [HI.out.2.1, HDR.out]
                exact v4_many HNM.out (by rw [hlast]; rfl) (by omega)
              have HST := Lib.hid hst
              clear hs1 hst hlast
              go_wp2
              go_ret2
              rw [HST.out]
              exact ⟨rfl, HB2.out⟩
          · obtain ⟨hs1, hs2⟩ : sum % 65536 = 0 ∧ sum < 4294967296 := ⟨HI.out.2.2.1 (by omega), HI.out.2.2.2⟩
            by_cases hm : m ≤ 255
            · have hor : Go.bits .or .u64 (sum : Int) ((m : Int) * 256) = (sum : Int) + (m : Int) * 256 := or64 16 (by decide) (by omega) (by omega) (by omega) (by omega)
              have hst : o = v4F 4 3 (sum + m * 256) (ps.drop 3) := by
                rw [HI.out.2.1, HDR.out]
                exact v4_more HNM.out (by rw [hlast]; rfl) hm
              have HST := Lib.hid hst
              clear hs1 hst hlast
              go_wp2
              go_roundg (4 - 3)
              case measure => exact hgg
              case rel =>
                obtain ⟨hs1, hs2⟩ : sum % 65536 = 0 ∧ sum < 4294967296 := ⟨HI.out.2.2.1 (by omega), HI.out.2.2.2⟩
                clear hor
                exact ⟨sum + m * 256, 3, by go_num, by go_num, Lib.hid ⟨by omega, HST.out, fun _ => by omega, by omega⟩, HB2, HB12⟩
            · have hst : o = none := by
                rw [HI.out.2.1, HDR.out]
                exact v4_many HNM.out (by rw [hlast]; rfl) (by omega)
              have HST := Lib.hid hst
              clear hs1 hst hlast
              go_wp2
              go_ret2
              rw [HST.out]
              exact ⟨rfl, HB2.out⟩
          · obtain ⟨hs1, hs2⟩ : sum % 256 = 0 ∧ sum < 4294967296 := ⟨HI.out.2.2.1 (by omega), HI.out.2.2.2⟩
            by_cases hm : m < 256
            · have hor : Go.bits .or .u64 (sum : Int) (m : Int) = (sum : Int) + (m : Int) := or64 8 (by decide) (by omega) (by omega) (by omega) (by omega)
              have hdv : (m : Int) / 256 = 0 := by omega
              have hst : o = v4F 4 4 (sum + m) (ps.drop 4) := by
                rw [HI.out.2.1, HDR.out]
                exact v4_last HNM.out (by rw [hlast]; rfl) (by omega)
              have HST := Lib.hid hst
              clear hs1 hst hlast
              go_wp2
              go_roundg (4 - 4)
              case measure => exact hgg
              case rel =>
                obtain ⟨hs1, hs2⟩ : sum % 256 = 0 ∧ sum < 4294967296 := ⟨HI.out.2.2.1 (by omega), HI.out.2.2.2⟩
                clear hor
                exact ⟨sum + m, 4, by go_num, by go_num, Lib.hid ⟨by omega, HST.out, fun _ => by omega, by omega⟩, HB2, HB12⟩
            · have hdv : ((m : Int) / 256 == 0) = false := by rw [beq_eq_false_iff_ne]; omega
              have hdn : ((m : Int) / 256 != 0) = true := by rw [bne_iff_ne]; omega
              have hst : o = none := by
                rw [HI.out.2.1, HDR.out]
                exact v4_big HNM.out (by rw [hlast]; rfl) (by omega)
              have HST := Lib.hid hst
              clear hs1 hst hlast
              go_wp2
              go_ret2
              rw [HST.out]
              exact ⟨rfl, HB2.out⟩
      · obtain rfl : kk = n := by have := HI.out.1; omega
        have hst : o = some sum := by
          rw [HI.out.2.1, List.drop_of_length_le (by rw [← HN.out]; exact Nat.le_refl _)]
          unfold v4F; rfl
        have HST := Lib.hid hst
        have hsm : (sum : Int) % 4294967296 = sum := by have := HI.out.2.2.2; omega
        clear hst
        go_wp2
        go_ret2
        rw [HST.out]
        exact ⟨by rw [show v4n (some sum) = (sum : Int) from rfl]; rfl, HW.out⟩
  · have h4z : ¬ (n : Int) ≤ 4 := by omega
    have hdn : o = none := by rw [HV.out, ← HN.out, if_neg h4]
    have HDN := Lib.hid hdn
    clear hdn
    go_wp2
    go_ret2
    rw [HDN.out]
    exact ⟨rfl, HB1.out⟩
def addr_V4.f (a0 : ByteArray) : Option (Int × Int) := if a0.size ≤ 1000000000 then some (v4n (v4L a0.data.toList), v4e (v4L a0.data.toList)) else none
theorem addr_V4.calls (a0 : ByteArray) (r1 r2 : Int) (w : World) (hT : UTabs w) (h : addr_V4.f a0 = some (r1, r2)) :
    Calls Tryd.prog 10 #[.string a0] w fun e w' => e = .returned (.tuple #[.int .u32 r1, .int .i64 r2]) ∧ Below w.heap.size w w' := by
  unfold addr_V4.f at h
  split at h
  · rename_i hs
    have e := Option.some.inj h
    simp only [Prod.mk.injEq] at e
    obtain ⟨rfl, rfl⟩ := e
    exact v4_calls a0 hs w hT
  · cases h
end Go.Proofs.YtkabhnbjjnjdhaaDoor.Q
