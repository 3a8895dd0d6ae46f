/- addr.dotted: four decimal numbers, as two pieces. -/
import Derived.Test.YtkabhnbjjnjdhaaDoorSAEnds
import Derived.Test.YtkabhnbjjnjdhaaDoorSAAtoi
import Derived.Test.YtkabhnbjjnjdhaaDoorSItoa
set_option linter.unusedSimpArgs false
set_option linter.unusedVariables false
namespace Go.Proofs.YtkabhnbjjnjdhaaDoor.Q
open Go.RowKit Go.Proofs.YtkabhnbjjnjdhaaDoorW.PrintWords Go.Proofs.YtkabhnbjjnjdhaaDoorW.PrintLast Go.Proofs.YtkabhnbjjnjdhaaDoorW.PrintMore Go.Proofs.YtkabhnbjjnjdhaaDoor.Ad
theorem wrap16 {n : Int} (h0 : 0 ≤ n) (h1 : n < 65536) : IntKind.u16.wrap n = n := by
  have : IntKind.u16.wrap n = n % 65536 := by simp [IntKind.wrap, IntKind.bits, IntKind.signed]
  rw [this]; exact Int.emod_eq_of_lt h0 h1
theorem or16 {a b : Nat} (ha : a < 256) (hb : b < 256) : Go.bits .or .u16 ((a : Int) * 256) (b : Int) = (a : Int) * 256 + b :=
  bits_join .u16 16 (by decide) (fun n h0 h1 => wrap16 h0 (by omega)) 8 ((a : Int) * 256) b (by omega) (by omega) (by omega) (by omega) (by omega) (by omega)
def blk16 (w : World) (b : Nat) (ns : List Nat) (n : Nat) : Prop := w.heap[b]? = some (.cells ((ns ++ List.replicate (n - ns.length) 0).map fun x : Nat => Value.int .u16 (x : Int)).toArray 80 (0, 0))
def rowM : Option (Nat × Nat) → List Int
  | none => []
  | some (a, b) => [(a : Int), (b : Int)]
theorem heapSet {W : World} {b j : Nat} {cs : Array Value} {t : TypeId} {fr : Nat × Nat} (v : Value) (h : W.heap[b]? = some (.cells cs t fr)) : (W.setCell ⟨b, j, none⟩ v).heap[b]? = some (.cells (cs.setIfInBounds j v) t fr) := by
  obtain ⟨hlt, hk⟩ := Array.getElem?_eq_some_iff.1 h
  show (W.heap.modify b _)[b]? = _
  rw [Array.getElem?_eq_getElem (by rw [Array.size_modify]; exact hlt), Array.getElem_modify_self, hk]; simp
theorem blk16_set {w : World} {b : Nat} {ns : List Nat} {n : Nat} (h : blk16 w b ns n) (hn : ns.length < n) (x : Nat) : blk16 (w.setCell ⟨b, ns.length, none⟩ (.int .u16 (x : Int))) b (ns ++ [x]) n := by
  unfold blk16 at h ⊢
  rw [heapSet _ h]
  congr 2
  obtain ⟨q, hq⟩ : ∃ q, n - ns.length = q + 1 := ⟨n - ns.length - 1, by omega⟩
  rw [hq, show n - (ns ++ [x]).length = q from by rw [List.length_append, List.length_singleton]; omega]
  apply Array.toList_inj.1
  rw [Array.toList_setIfInBounds]
  simp [List.replicate_succ]
theorem blk16_below {w w1 : World} {b : Nat} {ns : List Nat} {n : Nat} (h : blk16 w b ns n) (hb : Below w.heap.size w w1) : blk16 w1 b ns n := (hb.block b (Array.getElem?_eq_some_iff.1 h).1).trans h
theorem itoa_call (a0 : Int) (w : World) (hT : UTabs w) (h0 : -9223372036854775808 ≤ a0) (h1 : a0 ≤ 9223372036854775807) :
    Calls Tryd.prog 32 #[.int .i64 a0] w fun e w' => e = .returned (.string ⟨(Lib.itoa a0).toArray⟩) ∧ Below w.heap.size w w' := strconv_Itoa_32.calls a0 _ w hT (if_pos ⟨h0, h1⟩)
set_option maxHeartbeats 8000000 in
theorem dotted_calls (s : ByteArray) (hs : s.size ≤ 1000000000) (w : World) (hT : UTabs w) :
    Calls Tryd.prog 43 #[.string s] w fun e w' => ∃ v : Value, e = .returned (.tuple #[v, .bool (dotL s.data.toList).isSome]) ∧ Kd.R (Kd.int .u16) 26 w' w.heap.size (fun _ => True) v (rowM (dotL s.data.toList)) ∧ Below w.heap.size w w' := by
  have e37 : ∀ args w, (callFunc 37 args).run Tryd.prog w = .ok (.enter 37 args) w := enters_of Tryd.func37 (by kernel_rfl) rfl
  have e56 : ∀ args w, (callFunc 56 args).run Tryd.prog w = .ok (.enter 56 args) w := enters_of Tryd.func56 (by kernel_rfl) rfl
  have e32 : ∀ args w, (callFunc 32 args).run Tryd.prog w = .ok (.enter 32 args) w := enters_of Tryd.func32 (by kernel_rfl) rfl
  have hsp := strings_Split.calls s ⟨#[46]⟩ ((parts 46 s.data.toList).map B) w hT (if_pos ⟨rfl, by omega⟩)
  have hpl := parts_len 46 s.data.toList
  have hpm := parts_mem 46 s.data.toList
  rw [← Lib.size_eq] at hpl hpm
  have hdl : dotL s.data.toList = dotM ((parts 46 s.data.toList).map decP) := rfl
  generalize dotL s.data.toList = dl at *
  generalize parts 46 s.data.toList = ps at *
  have HT := Lib.hid hT
  clear hT
  obtain ⟨n, hn⟩ : ∃ n, n = ps.length := ⟨_, rfl⟩
  have HN := Lib.hid hn
  have HD := Lib.hid hdl
  have HM := Lib.hid hpm
  have HP := Lib.hid hpl
  clear hpm hdl hpl
  go_enter Tryd.func43, Tryd.ntmps43
  go_wp2_with fail
  refine hsp.mono ?_
  rintro e w1 ⟨v, rfl, hR, hb1⟩
  obtain ⟨A, c, rfl, hle, hC⟩ := Kd.R_reads hR
  rw [List.length_map, ← hn] at hle hC ⊢
  have HB1 := Lib.hid hb1
  clear hb1 hsp hR
  by_cases h4 : n = 4
  · subst h4
    obtain ⟨b, o, rfl, hbl, hcell⟩ := strAt hC (by omega)
    have HC := Lib.hid hcell
    have hB0 : blk16 (w1.alloc (.cells #[.int .u16 0, .int .u16 0, .int .u16 0, .int .u16 0] 80)) w1.heap.size [] 4 := heap_alloc_new w1 _
    have HB0 := Lib.hid hB0
    have hbl' : b < w1.heap.size := hbl
    have HBL := Lib.hid hbl'
    clear hC hcell hB0 hn hbl hbl'
    go_wp2
    go_loopg [6, 7, 8, 9, 17] 4 (fun gg _ _ _ _ s17 wr => ∃ (ns : List Nat), s17 = .int .i64 ns.length ∧ Hid (ns.length ≤ 4 ∧ 4 - ns.length ≤ gg ∧ (ps.take ns.length).map decP = ns.map some ∧ ∀ x ∈ ns, x < 256) ∧ Hid (Below w1.heap.size w1 wr) ∧ Hid (blk16 wr w1.heap.size ns 4))
    case atStart => exact ⟨[], rfl, Lib.hid ⟨by simp, by simp, by simp, by simp⟩, Lib.hid ((Below.refl _ _).alloc (Nat.le_refl _) _), HB0⟩
    case round =>
      obtain ⟨ns, rfl, HI, HW, HK⟩ := hrel
      obtain ⟨kk, hkk⟩ : ∃ kk, kk = ns.length := ⟨_, rfl⟩
      rw [← hkk] at HI ⊢
      have HKK := Lib.hid hkk
      clear hkk
      by_cases hlt : kk < 4
      · have hltz : (kk : Int) < 4 := by omega
        have hc1 : wr.cell? ⟨b, o + kk, none⟩ = some (.string ((ps.map B).getD kk ByteArray.empty)) := (HW.out.cell HBL.out).trans (HC.out kk hlt)
        obtain ⟨p, hp⟩ : ∃ p, ps[kk]? = some p := ⟨ps[kk]'(by rw [← HN.out]; exact hlt), List.getElem?_eq_getElem _⟩
        have hpe : (ps.map B).getD kk ByteArray.empty = B p := by rw [List.getD_eq_getElem?_getD, List.getElem?_map, hp]; rfl
        have hpm := HM.out p (List.mem_of_getElem? hp)
        have hps : (B p).size ≤ 1000000000 := by rw [show (B p).size = p.length from Lib.size_eq _]; omega
        rw [hpe] at hc1
        have hTW : UTabs wr := (HT.out.below HB1.out).below (HW.out)
        have hat := atoi_calls (B p) (by omega) wr hTW
        rw [show (B p).data.toList = p from rfl] at hat
        have HTW := Lib.hid hTW
        have HP := Lib.hid hp
        have hbp : (B p).toList = p := by rw [Go.ByteArray.toList_eq]; rfl
        have HBP := Lib.hid hbp
        generalize B p = x at *
        have hno : decP p = none → dl = none := fun h => by
          rw [HD.out]
          exact dotM_none (List.mem_map.2 ⟨p, List.mem_of_getElem? HP.out, h⟩)
        have HNO := Lib.hid hno
        clear hpe hpm hps hTW hp hbp hno
        go_wp2_with fail
        refine hat.mono ?_
        rintro e w2 ⟨m, er, rfl, hb2, hsaid⟩
        have HB2 := Lib.hid hb2
        have HW2 := Lib.hid (HW.out.trans (hb2.mono HW.out.size))
        clear hat hb2
        cases hR : Lib.atoiAll p with
        | ok mv =>
          rw [hR] at hsaid
          obtain ⟨rfl, rfl⟩ := hsaid
          obtain ⟨bd0, bd1⟩ := Lib.atoiAll_bounds hR
          have hit := itoa_call m w2 (HTW.out.below HB2.out) (by omega) (by omega)
          obtain ⟨y, hy⟩ : ∃ y, y = (⟨(Lib.itoa m).toArray⟩ : ByteArray) := ⟨_, rfl⟩
          have hyl : y.toList = Lib.itoa m := by rw [hy, Go.ByteArray.toList_eq]
          have HY := Lib.hid hyl
          rw [← hy] at hit
          have HR := Lib.hid hR
          clear hy hyl hR
          by_cases q1 : (y.toList == x.toList) = true
          · have q1' : Lib.itoa m = p := by rw [← HBP.out, ← HY.out]; exact beq_iff_eq.1 q1
            have HQ := Lib.hid q1'
            clear q1'
            by_cases q2 : m < 0
            · have hdn : dl = none := HNO.out (decP_no fun v h1 h2 h3 h4 => by rw [HR.out] at h1; cases h1; omega)
              have HDN := Lib.hid hdn
              clear hdn
              go_wp2_with fail
              refine hit.mono ?_
              rintro e w3 ⟨rfl, hb3⟩
              go_wp2
              go_ret2
              rw [HDN.out]
              exact ⟨_, rfl, Kd.R_nil _ _ _ _ _, HB1.out.trans ((HW2.out.trans (hb3.mono HW2.out.size)).mono HB1.out.size)⟩
            · by_cases q3 : 255 < m
              · have hdn : dl = none := HNO.out (decP_no fun v h1 h2 h3 h4 => by rw [HR.out] at h1; cases h1; omega)
                have HDN := Lib.hid hdn
                clear hdn
                go_wp2_with fail
                refine hit.mono ?_
                rintro e w3 ⟨rfl, hb3⟩
                go_wp2
                go_ret2
                rw [HDN.out]
                exact ⟨_, rfl, Kd.R_nil _ _ _ _ _, HB1.out.trans ((HW2.out.trans (hb3.mono HW2.out.size)).mono HB1.out.size)⟩
              · obtain ⟨mn, rfl⟩ : ∃ mn : Nat, m = mn := ⟨m.toNat, by omega⟩
                have hdp : decP p = some mn := by rw [decP_ok (by omega) (by omega) HQ.out, Int.toNat_natCast]
                have HDP := Lib.hid hdp
                have q2' : mn < 256 := by omega
                have hcv : IntKind.u16.wrap (mn : Int) = mn := wrap16 (by omega) (by omega)
                clear hdp
                go_wp2_with fail
                refine hit.mono ?_
                rintro e w3 ⟨rfl, hb3⟩
                have hk3 : blk16 w3 w1.heap.size ns 4 := blk16_below (blk16_below HK.out HB2.out) hb3
                have HK3 := Lib.hid hk3
                have HW3 := Lib.hid (HW2.out.trans (hb3.mono HW2.out.size))
                have hcl : (w3.cell? ⟨w1.heap.size, kk, none⟩).isSome = true := by
                  unfold World.cell?
                  rw [show w3.heap[w1.heap.size]? = _ from hk3]
                  have : kk < (((ns ++ List.replicate (4 - ns.length) 0).map fun x : Nat => Value.int .u16 (x : Int)).toArray).size := by simp; have := HKK.out; omega
                  simp only [Option.isSome_none, Bool.false_eq_true, if_false]
                  rw [Array.getElem?_eq_getElem this]; rfl
                obtain ⟨u0, hu0⟩ := Option.isSome_iff_exists.1 hcl
                have hfr : w3.frozen? ⟨w1.heap.size, kk, none⟩ = false := by
                  unfold World.frozen?
                  rw [show w3.heap[w1.heap.size]? = _ from hk3]
                  simp
                clear hk3 hb3 hcl
                go_wp2
                go_roundg (4 - (kk + 1))
                case measure => have := HI.out; omega
                case rel =>
                  have hk := HKK.out
                  have hi := HI.out
                  refine ⟨ns ++ [mn], ?_, Lib.hid ⟨?_, ?_, ?_, ?_⟩, Lib.hid ?_, Lib.hid ?_⟩
                  · rw [List.length_append, List.length_singleton, ← hk]; go_num
                  · rw [List.length_append, List.length_singleton]; omega
                  · rw [List.length_append, List.length_singleton]; omega
                  · rw [List.length_append, List.length_singleton, ← hk]
                    obtain ⟨hlt', hpp⟩ := List.getElem?_eq_some_iff.1 HP.out
                    rw [List.take_succ_eq_append_getElem hlt', List.map_append, List.map_append, hi.2.2.1, hpp]
                    simp [HDP.out]
                  · intro z hz
                    rcases List.mem_append.1 hz with hz | hz
                    · exact hi.2.2.2 z hz
                    · rw [List.mem_singleton.1 hz]; exact q2'
                  · exact HW3.out.setCell (p := ⟨w1.heap.size, kk, none⟩) (Nat.le_refl _) _
                  · have := blk16_set HK3.out (by omega) mn
                    rw [← hk] at this
                    exact this
          · have q1f : (y.toList == x.toList) = false := by simpa using q1
            have q1n : Lib.itoa m ≠ p := fun h => q1 (by rw [HY.out, HBP.out, h]; exact beq_self_eq_true _)
            have hdn : dl = none := HNO.out (decP_no fun v h1 h2 h3 h4 => by rw [HR.out] at h1; cases h1; exact q1n h2)
            have HDN := Lib.hid hdn
            clear hdn
            clear q1 q1n
            go_wp2_with fail
            refine hit.mono ?_
            rintro e w3 ⟨rfl, hb3⟩
            go_wp2
            go_ret2
            rw [HDN.out]
            exact ⟨_, rfl, Kd.R_nil _ _ _ _ _, HB1.out.trans ((HW2.out.trans (hb3.mono HW2.out.size)).mono HB1.out.size)⟩
        | «syntax» =>
          rw [hR] at hsaid
          obtain ⟨_, T, N, rfl⟩ := hsaid
          have hdn : dl = none := HNO.out (decP_no fun v h1 h2 h3 h4 => by rw [hR] at h1; cases h1)
          have HDN := Lib.hid hdn
          clear hdn
          clear hR
          go_wp2
          go_ret2
          rw [HDN.out]
          exact ⟨_, rfl, Kd.R_nil _ _ _ _ _, HB1.out.trans (HW2.out.mono HB1.out.size)⟩
        | range =>
          rw [hR] at hsaid
          obtain ⟨_, T, N, rfl⟩ := hsaid
          have hdn : dl = none := HNO.out (decP_no fun v h1 h2 h3 h4 => by rw [hR] at h1; cases h1)
          have HDN := Lib.hid hdn
          clear hdn
          clear hR
          go_wp2
          go_ret2
          rw [HDN.out]
          exact ⟨_, rfl, Kd.R_nil _ _ _ _ _, HB1.out.trans (HW2.out.mono HB1.out.size)⟩
      · have hi := HI.out
        obtain rfl : kk = 4 := by omega
        obtain ⟨a0, a1, a2, a3, rfl⟩ : ∃ a0 a1 a2 a3, ns = [a0, a1, a2, a3] := by
          have := HKK.out
          match ns, this with
          | [a, b, c, d], _ => exact ⟨a, b, c, d, rfl⟩
        have hdl : dl = some (a0 * 256 + a1, a2 * 256 + a3) := by
          rw [HD.out]
          have := hi.2.2.1
          rw [List.take_of_length_le (by rw [← HN.out]; exact Nat.le_refl _)] at this
          rw [this]; rfl
        have l0 := hi.2.2.2 a0 (by simp)
        have l1 := hi.2.2.2 a1 (by simp)
        have l2 := hi.2.2.2 a2 (by simp)
        have l3 := hi.2.2.2 a3 (by simp)
        have HDL := Lib.hid hdl
        have hk : wr.heap[w1.heap.size]? = some (.cells #[.int .u16 a0, .int .u16 a1, .int .u16 a2, .int .u16 a3] 80 (0, 0)) := HK.out
        have c0 : wr.cell? ⟨w1.heap.size, 0, none⟩ = some (.int .u16 a0) := by rw [Lib.cell_of_heap hk]; rfl
        have c1 : wr.cell? ⟨w1.heap.size, 1, none⟩ = some (.int .u16 a1) := by rw [Lib.cell_of_heap hk]; rfl
        have c2 : wr.cell? ⟨w1.heap.size, 2, none⟩ = some (.int .u16 a2) := by rw [Lib.cell_of_heap hk]; rfl
        have c3 : wr.cell? ⟨w1.heap.size, 3, none⟩ = some (.int .u16 a3) := by rw [Lib.cell_of_heap hk]; rfl
        have o1 := or16 l0 l1
        have o2 := or16 l2 l3
        clear hi hdl hk
        go_wp2
        go_ret2
        rw [HDL.out]
        refine ⟨_, rfl, ?_, HB1.out.trans ((HW.out.alloc HW.out.size _).mono HB1.out.size)⟩
        show Kd.R (Kd.int .u16) 26 _ _ _ _ [((a0 * 256 + a1 : Nat) : Int), ((a2 * 256 + a3 : Nat) : Int)]
        have hB := Nat.le_trans HB1.out.size HW.out.size
        exact Kd.R_of_own ⟨by simp [encs], .inr ⟨wr.heap.size, 2, #[.int .u16 ((a0 : Int) * 256 + a1), .int .u16 ((a2 : Int) * 256 + a3)], rfl, hB, heapNew wr _, Nat.le_refl _, by unfold maxLen; omega, by simp, by simp [encs]⟩⟩ (fun _ _ => trivial)
  · have hnz : (decide ((n : Int) = 4)) = false := by simpa using (by omega : ¬ (n : Int) = 4)
    have hnz2 : ((n : Int) == 4) = false := by rw [beq_eq_false_iff_ne]; omega
    have hdn : dl = none := by rw [HD.out]; exact dotM_len (by rw [List.length_map, ← HN.out]; exact h4)
    have HDN := Lib.hid hdn
    clear hdn
    go_wp2
    go_ret2
    rw [HDN.out]
    exact ⟨_, rfl, Kd.R_nil _ _ _ _ _, HB1.out.alloc HB1.out.size _⟩
end Go.Proofs.YtkabhnbjjnjdhaaDoor.Q
