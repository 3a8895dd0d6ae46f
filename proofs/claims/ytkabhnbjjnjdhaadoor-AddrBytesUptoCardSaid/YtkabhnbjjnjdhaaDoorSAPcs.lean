/- addr.pieces: what stands between single colons. -/
import Derived.Test.YtkabhnbjjnjdhaaDoorSADot
set_option linter.unusedSimpArgs false
set_option linter.unusedVariables false
namespace Go.Proofs.YtkabhnbjjnjdhaaDoor.Q
open Go.RowKit Go.Proofs.YtkabhnbjjnjdhaaDoorW.PrintWords Go.Proofs.YtkabhnbjjnjdhaaDoorW.PrintLast Go.Proofs.YtkabhnbjjnjdhaaDoorW.PrintMore Go.Proofs.YtkabhnbjjnjdhaaDoor.Ad
theorem hex_tab : ∀ c : Fin 256, anyN (fun j => pHex j ((c.val : Nat) : Int)) 2 = decide (dgN (UInt8.ofNat c.val) < 16) := by decide +kernel
theorem oct_tab : ∀ c : Fin 256, anyN (fun j => pOct j ((c.val : Nat) : Int)) 1 = decide (dgN (UInt8.ofNat c.val) < 8) := by decide +kernel
theorem dec_tab : ∀ c : Fin 256, anyN (fun j => pDec j ((c.val : Nat) : Int)) 1 = decide (dgN (UInt8.ofNat c.val) < 10) := by decide +kernel
theorem all_of {p : Nat → Int → Bool} {n b : Nat} (h : ∀ c : Fin 256, anyN (fun j => p j ((c.val : Nat) : Int)) n = decide (dgN (UInt8.ofNat c.val) < b)) (s : ByteArray) : allB p n s = allD b s.data.toList := by
  unfold allB allD
  congr 1
  funext x
  have := h ⟨x.toNat, x.toNat_lt⟩
  simp only [UInt8.ofNat_toNat] at this
  exact this
theorem all_hex (s : ByteArray) : allB pHex 2 s = allD 16 s.data.toList := all_of hex_tab s
theorem all_oct (s : ByteArray) : allB pOct 1 s = allD 8 s.data.toList := all_of oct_tab s
theorem all_dec (s : ByteArray) : allB pDec 1 s = allD 10 s.data.toList := all_of dec_tab s
theorem pu16_calls (t : ByteArray) (hs : t.size ≤ 281474976710656) (w : World) (hT : UTabs w) :
    Calls Tryd.prog 40 #[.string t, .int .i64 16, .int .i64 16] w fun e w' => ∃ u er, e = .returned (.tuple #[.int .u64 u, er]) ∧ Below w.heap.size w w' ∧ puSaid (puAll 16 65535 t.data.toList) u er := by
  obtain ⟨_, _, _, ⟨e1, h1, h1'⟩, ⟨e2, h2, h2'⟩⟩ := hT
  exact parseUint_16_16 Tryd.laysPu_14 t hs e1 e2 w h1 h1' h2 h2'
theorem hT_of {w w1 : World} (h : UTabs w) (hb : Below w.heap.size w w1) : UTabs w1 := h.below hb
theorem puAll_cases (t : List UInt8) : (∃ u, puAll 16 65535 t = .ok u ∧ u < 65536 ∧ allD 16 t = true ∧ u = val 16 t ∧ t ≠ []) ∨ ((puAll 16 65535 t = .syntax ∨ puAll 16 65535 t = .range) ∧ (t = [] ∨ allD 16 t = false ∨ 65535 < val 16 t)) := by
  unfold puAll
  by_cases h0 : t = []
  · rw [if_pos h0]; exact .inr ⟨.inl rfl, .inl h0⟩
  · rw [if_neg h0]
    cases ha : allD 16 t with
    | true =>
      rw [puL_ok (by omega) t 0 (by omega) ha]
      by_cases hv : valF 16 0 t ≤ 65535
      · rw [if_pos hv]; exact .inl ⟨_, rfl, by omega, rfl, rfl, h0⟩
      · rw [if_neg hv]; exact .inr ⟨.inr rfl, .inr (.inr (by unfold val; omega))⟩
    | false =>
      have := puL_bad (M := 65535) t 0 ha
      refine .inr ⟨?_, .inr (.inl rfl)⟩
      cases e : puL 16 65535 0 t with
      | ok n => exact absurd e (this n)
      | «syntax» => exact .inl rfl
      | range => exact .inr rfl
theorem valF_lt {b : Nat} (hb : 0 < b) : ∀ (l : List UInt8) (acc : Nat), allD b l = true → valF b acc l < (acc + 1) * b ^ l.length
  | [], acc, _ => by unfold valF; simp
  | c :: r, acc, h => by
    unfold allD at h
    rw [List.all_cons, Bool.and_eq_true] at h
    have h1 := of_decide_eq_true h.1
    have ih := valF_lt hb r (acc * b + dgN c) h.2
    unfold valF
    refine Nat.lt_of_lt_of_le ih ?_
    rw [List.length_cons, Nat.pow_succ, Nat.mul_comm (b ^ r.length) b, ← Nat.mul_assoc]
    refine Nat.mul_le_mul_right _ ?_
    rw [Nat.add_mul]
    omega
theorem val_lt4 {t : List UInt8} (h : allD 16 t = true) (hl : t.length ≤ 4) : val 16 t < 65536 := by
  have := valF_lt (by omega) t 0 h
  have h2 : 16 ^ t.length ≤ 16 ^ 4 := Nat.pow_le_pow_right (by omega) hl
  unfold val
  omega
theorem piece_ok {t : List UInt8} {u : Nat} (h : u = val 16 t) (h1 : t ≠ []) (h2 : t.length ≤ 4) (h3 : allD 16 t = true) : pieceL t = some u := by unfold pieceL; rw [if_pos ⟨h1, h2, h3⟩, h]
theorem piece_long {t : List UInt8} (h2 : ¬ t.length ≤ 4) : pieceL t = none := if_neg fun h => h2 h.2.1
theorem piece_bad {t : List UInt8} (h : t = [] ∨ allD 16 t = false ∨ 65535 < val 16 t) : pieceL t = none := by
  refine if_neg fun ⟨h1, h2, h3⟩ => ?_
  rcases h with h | h | h
  · exact h1 h
  · rw [h3] at h; cases h
  · have := val_lt4 h3 h2; omega
theorem pcs_dot {p : List UInt8} {a b : Nat} (h : dotL p = some (a, b)) : pcsF true [p] = some [a, b] := by
  unfold pcsF
  rw [if_pos ⟨rfl, rfl⟩, h]
theorem pcs_more {e : Bool} {p : List UInt8} {r : List (List UInt8)} {n : Nat} (h : dotL p = none ∨ e = false ∨ r.isEmpty = false) (hp : pieceL p = some n) : pcsF e (p :: r) = (pcsF e r).map (n :: ·) := by
  have : (if e = true ∧ r.isEmpty = true then dotL p else none) = none := by
    rcases h with h | h | h
    · rw [h]; split <;> rfl
    · rw [if_neg (by rw [h]; simp)]
    · rw [if_neg (by rw [h]; simp)]
  conv => lhs; unfold pcsF
  rw [this, hp]
  cases pcsF e r <;> rfl
theorem pcs_none {e : Bool} {p : List UInt8} {r : List (List UInt8)} (h : dotL p = none ∨ e = false ∨ r.isEmpty = false) (hp : pieceL p = none) : pcsF e (p :: r) = none := by
  have : (if e = true ∧ r.isEmpty = true then dotL p else none) = none := by
    rcases h with h | h | h
    · rw [h]; split <;> rfl
    · rw [if_neg (by rw [h]; simp)]
    · rw [if_neg (by rw [h]; simp)]
  unfold pcsF
  rw [this, hp]
def pcsRow : Option (List Nat) → List Int
  | none => []
  | some l => l.map fun x : Nat => (x : Int)
theorem pcsL_ne {e : Bool} {l : List UInt8} (h : l ≠ []) : pcsL e l = pcsF e (parts 58 l) := if_neg h
set_option maxHeartbeats 16000000 in
theorem pieces_calls (s : ByteArray) (en : Bool) (hs : s.size ≤ 1000000000) (w : World) (hT : UTabs w) :
    Calls Tryd.prog 28 #[.string s, .bool en] w fun e w' => ∃ v : Value, e = .returned (.tuple #[v, .bool (pcsL en s.data.toList).isSome]) ∧ Kd.R (Kd.int .u16) 26 w' w.heap.size (fun _ => True) v (pcsRow (pcsL en s.data.toList)) ∧ Below w.heap.size w w' := by
  have e37 : ∀ args w, (callFunc 37 args).run Tryd.prog w = .ok (.enter 37 args) w := enters_of Tryd.func37 (by kernel_rfl) rfl
  have e43 : ∀ args w, (callFunc 43 args).run Tryd.prog w = .ok (.enter 43 args) w := enters_of Tryd.func43 (by kernel_rfl) rfl
  have e40 : ∀ args w, (callFunc 40 args).run Tryd.prog w = .ok (.enter 40 args) w := enters_of Tryd.func40 (by kernel_rfl) rfl
  have e30 : ∀ args w, (callFunc 30 args).run Tryd.prog w = .ok (.enter 30 args) w := enters_of Tryd.func30 (by kernel_rfl) rfl
  by_cases h0 : s.size = 0
  · obtain rfl := tl_em h0
    go_enter Tryd.func28, Tryd.ntmps28
    go_wp2
    go_ret2
    rw [show pcsL en (⟨#[]⟩ : ByteArray).data.toList = some [] from if_pos rfl]
    exact ⟨_, rfl, Kd.R_nil _ _ _ _ _, Below.refl _ _⟩
  · have hse := tl_ne h0
    have hsl : s.data.toList ≠ [] := fun h => h0 (by rw [Lib.size_eq, h]; rfl)
    have hsp := strings_Split.calls s ⟨#[58]⟩ ((parts 58 s.data.toList).map B) w hT (if_pos ⟨rfl, by omega⟩)
    have hpl := parts_len 58 s.data.toList
    have hpm := parts_mem 58 s.data.toList
    rw [← Lib.size_eq] at hpl hpm
    have hdl := pcsL_ne (e := en) hsl
    have hne := parts_ne 58 s.data.toList
    generalize pcsL en s.data.toList = dl at *
    generalize parts 58 s.data.toList = ps at *
    have HT := Lib.hid hT
    clear hT hsl
    obtain ⟨n, hn⟩ : ∃ n, n = ps.length := ⟨_, rfl⟩
    have hpos : 0 < n := by rw [hn]; exact List.length_pos_iff.2 hne
    have hnb : n ≤ 1000000001 := by omega
    have HN := Lib.hid hn
    have HD := Lib.hid hdl
    have HM := Lib.hid hpm
    clear hpm hdl hpl hne
    go_enter Tryd.func28, Tryd.ntmps28
    go_wp2_with fail
    refine hsp.mono ?_
    rintro e w1 ⟨v, rfl, hR, hb1⟩
    obtain ⟨A, c, rfl, hle, hC⟩ := Kd.R_reads hR
    rw [List.length_map, ← hn] at hle hC ⊢
    have HB1 := Lib.hid hb1
    obtain ⟨b, o, rfl, hbl, hcell⟩ := strAt hC hpos
    have HC := Lib.hid hcell
    have hbl' : b < w1.heap.size := hbl
    have HBL := Lib.hid hbl'
    clear hb1 hsp hR hC hcell hn hbl hbl'
    go_wp2
    go_loopg [6, 8, 9, 10, 11, 12, 13, 20] n (fun gg s6 _ _ _ _ _ _ s20 wr => ∃ (ns : List Nat) (kk : Nat), s20 = .int .i64 kk ∧ Hid (kk ≤ n ∧ n - kk ≤ gg ∧ ns.length ≤ kk ∧ dl = (pcsF en (ps.drop kk)).map (ns ++ ·)) ∧ Hid (Below w1.heap.size w1 wr) ∧ Hid (Kd.R (Kd.int .u16) 26 wr w1.heap.size (fun _ => True) s6 (ns.map fun x : Nat => (x : Int))))
    case atStart => exact ⟨[], 0, rfl, Lib.hid ⟨by omega, by omega, by simp, by rw [HD.out]; simp⟩, Lib.hid (Below.refl _ _), Lib.hid (Kd.R_nil _ _ _ _ _)⟩
    case round =>
      obtain ⟨ns, kk, rfl, HI, HW1, HO⟩ := hrel
      have HW := Lib.hid (HB1.out.trans (HW1.out.mono HB1.out.size))
      by_cases hlt : kk < n
      · have hltz : (kk : Int) < n := by omega
        have hc1 : wr.cell? ⟨b, o + kk, none⟩ = some (.string ((ps.map B).getD kk ByteArray.empty)) := (HW1.out.cell HBL.out).trans (HC.out kk hlt)
        obtain ⟨p, hp⟩ : ∃ p, ps[kk]? = some p := ⟨ps[kk]'(by rw [← HN.out]; exact hlt), List.getElem?_eq_getElem _⟩
        have hpe : (ps.map B).getD kk ByteArray.empty = B p := by rw [List.getD_eq_getElem?_getD, List.getElem?_map, hp]; rfl
        have hpm := HM.out p (List.mem_of_getElem? hp)
        have hpz : (B p).size = p.length := Lib.size_eq _
        have hps : (B p).size ≤ 1000000000 := by omega
        have hdrop : ps.drop kk = p :: ps.drop (kk + 1) := by
          obtain ⟨hk, rfl⟩ := List.getElem?_eq_some_iff.1 hp
          exact List.drop_eq_getElem_cons hk
        have hlast : (ps.drop (kk + 1)).isEmpty = decide (kk + 1 = n) := by
          by_cases e : kk + 1 = n
          · rw [decide_eq_true e, List.isEmpty_iff, List.drop_eq_nil_iff, ← HN.out]; omega
          · rw [decide_eq_false e, Bool.eq_false_iff]
            intro h
            rw [List.isEmpty_iff, List.drop_eq_nil_iff, ← HN.out] at h
            omega
        rw [hpe] at hc1
        have hTW : UTabs wr := hT_of HT.out HW.out
        have hdot := dotted_calls (B p) hps wr hTW
        have hdp : (B p).data.toList = p := rfl
        rw [hdp] at hdot
        have hall : ∀ W, Calls Tryd.prog 30 #[.string (B p), .slice (some ⟨W.heap.size, 0, none⟩) 2 2] (W.alloc (.cells #[.func (.func 31) #[] #[], .func (.func 38) #[] #[]] 51)) fun e w' => e = .returned (.bool (allD 16 p)) ∧ Below W.heap.size W w' := fun W => by
          have := all_two 31 38 pHex (B p) W (by omega) ok_pHex 2
          rw [all_hex, hdp] at this
          exact this
        have hpu := fun W hTW => pu16_calls (B p) (by omega) W hTW
        rw [hdp] at hpu
        have HTW := Lib.hid hTW
        have HDR := Lib.hid hdrop
        have HLA := Lib.hid hlast
        have HPZ := Lib.hid hpz
        rw [hpz] at hps
        generalize hx : B p = x at *
        clear hx hpe hpm hTW hp hpz hdp hdrop hlast
        have hxz : (x.size : Int) = (p.length : Int) := by rw [HPZ.out]
        have HXZ := Lib.hid hxz
        clear hxz
        obtain ⟨dd, hdd⟩ : ∃ dd, dd = dotL p := ⟨_, rfl⟩
        rw [← hdd] at hdot
        have HDD := Lib.hid hdd
        clear hdd
        go_wp2_with fail
        refine hdot.mono ?_
        rintro e w2 ⟨vd, rfl, hRd, hb2⟩
        have HRD := Lib.hid hRd
        have HW2 := Lib.hid (HW.out.trans (hb2.mono HW.out.size))
        have HW12 := Lib.hid (HW1.out.trans (hb2.mono HW1.out.size))
        have HO2 := Lib.hid (Kd.R_below HO.out hb2)
        have HLE2 := Lib.hid hb2.size
        clear hdot hb2 hRd
        by_cases hA : dd.isSome = true ∧ en = true ∧ kk + 1 = n
        · obtain ⟨hA1, rfl, hA3⟩ := hA
          obtain ⟨⟨d1, d2⟩, rfl⟩ := Option.isSome_iff_exists.1 hA1
          have hkn : ((kk : Int) == (n : Int) - 1) = true := by rw [beq_iff_eq]; omega
          have hkn2 : (kk : Int) = (n : Int) - 1 := by omega
          obtain ⟨Ad, cd, rfl, _, hCd⟩ := Kd.R_reads HRD.out
          have HCD := Lib.hid hCd
          have hlen : ((rowM (some (d1, d2))).length) = 2 := rfl
          have hdl : dl = some (ns ++ [d1, d2]) := by
            rw [HI.out.2.2.2, HDR.out, List.isEmpty_iff.1 (HLA.out.trans (decide_eq_true hA3)), pcs_dot HDD.out.symm]; rfl
          have HDL := Lib.hid hdl
          have HK := Lib.hid hkn2
          have hnl : (ns.map fun x : Nat => (x : Int)).length ≤ 1000000001 := by rw [List.length_map]; have := HI.out; omega
          have HNL := Lib.hid hnl
          obtain ⟨os, hos⟩ : ∃ os, os = (ns.map fun x : Nat => (x : Int)) := ⟨_, rfl⟩
          rw [← hos] at HO2 HNL
          have HOS := Lib.hid hos
          clear hA1 hkn2 hCd hdl hnl hos
          go_wp2_with ((with_reducible refine gate_builtin (b := .append) (xs := #[.tmp 41, .tmp 42]) rfl ?_); at_builtin; refine Kd.R_append_rows (Kd.int .u16) (w0 := w1) w1.heap.size rfl (.tmp 41) (.tmp 42) 47 26 (.int .u16 0) 2 rfl Tryd.underlying47 info26 rfl (by decide) (by omega) _ os (rowM (some (d1, d2))) Ad 2 cd (fun _ => True) (fun _ => False) rfl rfl HO2.out HCD.out (fun _ _ h => h) (fun _ h => h.elim) (fun _ _ => trivial) HW12.out HW12.out.size (by have := HNL.out; omega) ?_; intro v43 w3 ho hb hg hat; have HO3 := Lib.hid ho; have HW3 := Lib.hid hb; clear ho hb hg hat)
          go_ret2
          rw [HDL.out]
          refine ⟨_, rfl, ?_, HB1.out.trans (HW3.out.mono HB1.out.size)⟩
          have := Kd.R_lower HO3.out HB1.out.size
          rw [HOS.out] at this
          rw [show pcsRow (some (ns ++ [d1, d2])) = (ns.map fun x : Nat => (x : Int)) ++ rowM (some (d1, d2)) from List.map_append]
          exact this
        · have hB : dd = none ∨ en = false ∨ (ps.drop (kk + 1)).isEmpty = false := by
            rw [HLA.out]
            cases dd with
            | none => exact .inl rfl
            | some z => cases en with
              | false => exact .inr (.inl rfl)
              | true => exact .inr (.inr (decide_eq_false fun e => hA ⟨rfl, rfl, e⟩))
          have hBd := HDD.out ▸ hB
          have HBD := Lib.hid hBd
          have hB2 : (dd = none) ∨ (dd.isSome = true ∧ en = false) ∨ (dd.isSome = true ∧ en = true ∧ kk + 1 ≠ n) := by
            rw [HLA.out] at hB
            cases dd with
            | none => exact .inl rfl
            | some z => cases en with
              | false => exact .inr (.inl ⟨rfl, rfl⟩)
              | true => exact .inr (.inr ⟨rfl, rfl, fun e => hA ⟨rfl, rfl, e⟩⟩)
          have hpuW := hpu w2 (hT_of HT.out HW2.out)
          clear hA hB hBd hpu
          have hkn : kk + 1 ≠ n → ((kk : Int) == (n : Int) - 1) = false := fun h => by rw [beq_eq_false_iff_ne]; omega
          rcases puAll_cases p with ⟨u, hu, hu1, hu2, hu3, hu4⟩ | ⟨hu, hu1⟩
          · rw [hu] at hpuW
            rw [hu2] at hall
            by_cases hl4 : p.length ≤ 4
            · have hl4z : (p.length : Int) ≤ 4 := by omega
              have hl4x : (x.size : Int) ≤ 4 := by rw [HXZ.out]; omega
              have hstep : dl = (pcsF en (ps.drop (kk + 1))).map ((ns ++ [u]) ++ ·) := by
                rw [HI.out.2.2.2, HDR.out, pcs_more HBD.out (piece_ok hu3 hu4 hl4 hu2), Option.map_map]
                congr 1
                funext r
                simp
              have HS := Lib.hid hstep
              have hnl : (ns.map fun x : Nat => (x : Int)).length ≤ 1000000001 := by rw [List.length_map]; have := HI.out; omega
              have HNL := Lib.hid hnl
              have hcv : IntKind.u16.wrap (u : Int) = u := wrap16 (by omega) (by omega)
              obtain ⟨os, hos⟩ : ∃ os, os = (ns.map fun x : Nat => (x : Int)) := ⟨_, rfl⟩
              rw [← hos] at HO2 HNL
              have HOS := Lib.hid hos
              clear hstep hnl hos hu hu2 hu3 hl4 hl4z
              rcases hB2 with rfl | ⟨hB2, rfl⟩ | ⟨hB2, rfl, hB3⟩
              · go_wp2_with fail
                refine hpuW.mono ?_
                rintro e w3 ⟨u1, er, rfl, hb3, rfl, rfl⟩
                have HW3 := Lib.hid (HW2.out.trans (hb3.mono HW2.out.size))
                have HW13 := Lib.hid (HW12.out.trans (hb3.mono HW12.out.size))
                have HO3 := Lib.hid (Kd.R_below HO2.out hb3)
                clear hb3 hpuW
                go_wp2_with fail
                refine (hall w3).mono ?_
                rintro e w4 ⟨rfl, hb4⟩
                have HW4 := Lib.hid (HW3.out.trans (hb4.mono HW3.out.size))
                have HW14 := Lib.hid (HW13.out.trans (hb4.mono HW13.out.size))
                have HO4 := Lib.hid (Kd.R_below HO3.out hb4)
                clear hb4 hall
                go_wp2_with ((with_reducible refine gate_builtin (b := .append) (xs := #[.tmp 62, .tmp 65]) rfl ?_); at_builtin; refine Kd.R_append (Kd.int .u16) (w0 := w1) w1.heap.size rfl (.tmp 62) (.tmp 65) 47 26 (.int .u16 0) 2 rfl Tryd.underlying47 info26 rfl (by decide) (by omega) _ os (u : Int) [.int .u16 (u : Int)] (fun _ => True) (fun _ => False) rfl rfl rfl (fun _ hk => hk.elim) (fun _ _ => trivial) HO4.out HW14.out HW14.out.size (by have := HNL.out; omega) ?_; intro v66 w5 ho hb hg hat; have HO5 := Lib.hid ho; have HB5 := Lib.hid hb; clear ho hb hg hat)
                go_roundg (n - (kk + 1))
                case measure => have := HI.out; omega
                case rel =>
                  refine ⟨ns ++ [u], kk + 1, by go_num, Lib.hid ⟨by omega, by omega, by have := HI.out; rw [List.length_append, List.length_singleton]; omega, HS.out⟩, HB5, Lib.hid ?_⟩
                  have := HO5.out
                  rw [HOS.out] at this
                  rw [List.map_append]
                  exact this
              · obtain ⟨z, rfl⟩ := Option.isSome_iff_exists.1 hB2
                clear hB2
                go_wp2_with fail
                refine hpuW.mono ?_
                rintro e w3 ⟨u1, er, rfl, hb3, rfl, rfl⟩
                have HW3 := Lib.hid (HW2.out.trans (hb3.mono HW2.out.size))
                have HW13 := Lib.hid (HW12.out.trans (hb3.mono HW12.out.size))
                have HO3 := Lib.hid (Kd.R_below HO2.out hb3)
                clear hb3 hpuW
                go_wp2_with fail
                refine (hall w3).mono ?_
                rintro e w4 ⟨rfl, hb4⟩
                have HW4 := Lib.hid (HW3.out.trans (hb4.mono HW3.out.size))
                have HW14 := Lib.hid (HW13.out.trans (hb4.mono HW13.out.size))
                have HO4 := Lib.hid (Kd.R_below HO3.out hb4)
                clear hb4 hall
                go_wp2_with ((with_reducible refine gate_builtin (b := .append) (xs := #[.tmp 62, .tmp 65]) rfl ?_); at_builtin; refine Kd.R_append (Kd.int .u16) (w0 := w1) w1.heap.size rfl (.tmp 62) (.tmp 65) 47 26 (.int .u16 0) 2 rfl Tryd.underlying47 info26 rfl (by decide) (by omega) _ os (u : Int) [.int .u16 (u : Int)] (fun _ => True) (fun _ => False) rfl rfl rfl (fun _ hk => hk.elim) (fun _ _ => trivial) HO4.out HW14.out HW14.out.size (by have := HNL.out; omega) ?_; intro v66 w5 ho hb hg hat; have HO5 := Lib.hid ho; have HB5 := Lib.hid hb; clear ho hb hg hat)
                go_roundg (n - (kk + 1))
                case measure => have := HI.out; omega
                case rel =>
                  refine ⟨ns ++ [u], kk + 1, by go_num, Lib.hid ⟨by omega, by omega, by have := HI.out; rw [List.length_append, List.length_singleton]; omega, HS.out⟩, HB5, Lib.hid ?_⟩
                  have := HO5.out
                  rw [HOS.out] at this
                  rw [List.map_append]
                  exact this
              · obtain ⟨z, rfl⟩ := Option.isSome_iff_exists.1 hB2
                have hkn2 := hkn hB3
                have hkn3 : ¬ (kk : Int) = (n : Int) - 1 := by omega
                clear hB2
                go_wp2_with fail
                refine hpuW.mono ?_
                rintro e w3 ⟨u1, er, rfl, hb3, rfl, rfl⟩
                have HW3 := Lib.hid (HW2.out.trans (hb3.mono HW2.out.size))
                have HW13 := Lib.hid (HW12.out.trans (hb3.mono HW12.out.size))
                have HO3 := Lib.hid (Kd.R_below HO2.out hb3)
                clear hb3 hpuW
                go_wp2_with fail
                refine (hall w3).mono ?_
                rintro e w4 ⟨rfl, hb4⟩
                have HW4 := Lib.hid (HW3.out.trans (hb4.mono HW3.out.size))
                have HW14 := Lib.hid (HW13.out.trans (hb4.mono HW13.out.size))
                have HO4 := Lib.hid (Kd.R_below HO3.out hb4)
                clear hb4 hall
                go_wp2_with ((with_reducible refine gate_builtin (b := .append) (xs := #[.tmp 62, .tmp 65]) rfl ?_); at_builtin; refine Kd.R_append (Kd.int .u16) (w0 := w1) w1.heap.size rfl (.tmp 62) (.tmp 65) 47 26 (.int .u16 0) 2 rfl Tryd.underlying47 info26 rfl (by decide) (by omega) _ os (u : Int) [.int .u16 (u : Int)] (fun _ => True) (fun _ => False) rfl rfl rfl (fun _ hk => hk.elim) (fun _ _ => trivial) HO4.out HW14.out HW14.out.size (by have := HNL.out; omega) ?_; intro v66 w5 ho hb hg hat; have HO5 := Lib.hid ho; have HB5 := Lib.hid hb; clear ho hb hg hat)
                go_roundg (n - (kk + 1))
                case measure => have := HI.out; omega
                case rel =>
                  refine ⟨ns ++ [u], kk + 1, by go_num, Lib.hid ⟨by omega, by omega, by have := HI.out; rw [List.length_append, List.length_singleton]; omega, HS.out⟩, HB5, Lib.hid ?_⟩
                  have := HO5.out
                  rw [HOS.out] at this
                  rw [List.map_append]
                  exact this
            · have hl4z : ¬ (p.length : Int) ≤ 4 := by omega
              have hl4x : (4 : Int) < (x.size : Int) := by rw [HXZ.out]; omega
              have hdn : dl = none := by rw [HI.out.2.2.2, HDR.out, pcs_none HBD.out (piece_long hl4)]; rfl
              have HDL := Lib.hid hdn
              clear hdn hu hu2 hu3 hl4 hl4z hall
              rcases hB2 with rfl | ⟨hB2, rfl⟩ | ⟨hB2, rfl, hB3⟩
              · go_wp2_with fail
                refine hpuW.mono ?_
                rintro e w3 ⟨u1, er, rfl, hb3, hsaid⟩
                obtain ⟨rfl, rfl⟩ := hsaid
                go_wp2
                go_ret2
                rw [HDL.out]
                exact ⟨_, rfl, Kd.R_nil _ _ _ _ _, HW2.out.trans (hb3.mono HW2.out.size)⟩
              · obtain ⟨z, rfl⟩ := Option.isSome_iff_exists.1 hB2
                clear hB2
                go_wp2_with fail
                refine hpuW.mono ?_
                rintro e w3 ⟨u1, er, rfl, hb3, hsaid⟩
                obtain ⟨rfl, rfl⟩ := hsaid
                go_wp2
                go_ret2
                rw [HDL.out]
                exact ⟨_, rfl, Kd.R_nil _ _ _ _ _, HW2.out.trans (hb3.mono HW2.out.size)⟩
              · obtain ⟨z, rfl⟩ := Option.isSome_iff_exists.1 hB2
                have hkn2 := hkn hB3
                have hkn3 : ¬ (kk : Int) = (n : Int) - 1 := by omega
                clear hB2
                go_wp2_with fail
                refine hpuW.mono ?_
                rintro e w3 ⟨u1, er, rfl, hb3, hsaid⟩
                obtain ⟨rfl, rfl⟩ := hsaid
                go_wp2
                go_ret2
                rw [HDL.out]
                exact ⟨_, rfl, Kd.R_nil _ _ _ _ _, HW2.out.trans (hb3.mono HW2.out.size)⟩
          · have hdn : dl = none := by rw [HI.out.2.2.2, HDR.out, pcs_none HBD.out (piece_bad hu1)]; rfl
            have HDL := Lib.hid hdn
            clear hdn hu1 hall
            rcases hu with hu | hu
            · rw [hu] at hpuW
              clear hu
              rcases hB2 with rfl | ⟨hB2, rfl⟩ | ⟨hB2, rfl, hB3⟩
              · go_wp2_with fail
                refine hpuW.mono ?_
                rintro e w3 ⟨u1, er, rfl, hb3, hsaid⟩
                obtain ⟨T, N, rfl⟩ := hsaid
                go_wp2
                go_ret2
                rw [HDL.out]
                exact ⟨_, rfl, Kd.R_nil _ _ _ _ _, HW2.out.trans (hb3.mono HW2.out.size)⟩
              · obtain ⟨z, rfl⟩ := Option.isSome_iff_exists.1 hB2
                clear hB2
                go_wp2_with fail
                refine hpuW.mono ?_
                rintro e w3 ⟨u1, er, rfl, hb3, hsaid⟩
                obtain ⟨T, N, rfl⟩ := hsaid
                go_wp2
                go_ret2
                rw [HDL.out]
                exact ⟨_, rfl, Kd.R_nil _ _ _ _ _, HW2.out.trans (hb3.mono HW2.out.size)⟩
              · obtain ⟨z, rfl⟩ := Option.isSome_iff_exists.1 hB2
                have hkn2 := hkn hB3
                have hkn3 : ¬ (kk : Int) = (n : Int) - 1 := by omega
                clear hB2
                go_wp2_with fail
                refine hpuW.mono ?_
                rintro e w3 ⟨u1, er, rfl, hb3, hsaid⟩
                obtain ⟨T, N, rfl⟩ := hsaid
                go_wp2
                go_ret2
                rw [HDL.out]
                exact ⟨_, rfl, Kd.R_nil _ _ _ _ _, HW2.out.trans (hb3.mono HW2.out.size)⟩
            · rw [hu] at hpuW
              clear hu
              rcases hB2 with rfl | ⟨hB2, rfl⟩ | ⟨hB2, rfl, hB3⟩
              · go_wp2_with fail
                refine hpuW.mono ?_
                rintro e w3 ⟨u1, er, rfl, hb3, hsaid⟩
                obtain ⟨T, N, rfl⟩ := hsaid
                go_wp2
                go_ret2
                rw [HDL.out]
                exact ⟨_, rfl, Kd.R_nil _ _ _ _ _, HW2.out.trans (hb3.mono HW2.out.size)⟩
              · obtain ⟨z, rfl⟩ := Option.isSome_iff_exists.1 hB2
                clear hB2
                go_wp2_with fail
                refine hpuW.mono ?_
                rintro e w3 ⟨u1, er, rfl, hb3, hsaid⟩
                obtain ⟨T, N, rfl⟩ := hsaid
                go_wp2
                go_ret2
                rw [HDL.out]
                exact ⟨_, rfl, Kd.R_nil _ _ _ _ _, HW2.out.trans (hb3.mono HW2.out.size)⟩
              · obtain ⟨z, rfl⟩ := Option.isSome_iff_exists.1 hB2
                have hkn2 := hkn hB3
                have hkn3 : ¬ (kk : Int) = (n : Int) - 1 := by omega
                clear hB2
                go_wp2_with fail
                refine hpuW.mono ?_
                rintro e w3 ⟨u1, er, rfl, hb3, hsaid⟩
                obtain ⟨T, N, rfl⟩ := hsaid
                go_wp2
                go_ret2
                rw [HDL.out]
                exact ⟨_, rfl, Kd.R_nil _ _ _ _ _, HW2.out.trans (hb3.mono HW2.out.size)⟩
      · obtain rfl : kk = n := by have := HI.out; omega
        have hdl : dl = some ns := by
          rw [HI.out.2.2.2, List.drop_of_length_le (by rw [← HN.out]; exact Nat.le_refl _)]
          simp [pcsF]
        have HDL := Lib.hid hdl
        clear hdl
        go_wp2
        go_ret2
        rw [HDL.out]
        exact ⟨_, rfl, Kd.R_lower HO.out HB1.out.size, HW.out⟩
end Go.Proofs.YtkabhnbjjnjdhaaDoor.Q
