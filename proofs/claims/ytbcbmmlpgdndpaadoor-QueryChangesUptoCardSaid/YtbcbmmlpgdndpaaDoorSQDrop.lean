/- query.Drop: what it answers; slices.DeleteFunc of fields in a row of their own. -/
import Derived.Test.YtbcbmmlpgdndpaaDoorSB5
import Derived.Lib.SliceRun
set_option linter.unusedSimpArgs false
set_option linter.unusedVariables false
namespace Go.Proofs.YtbcbmmlpgdndpaaDoor.Q
open Go.RowKit Go.Proofs.YtbcbmmlpgdndpaaDoorW.PrintWords Go.Proofs.YtbcbmmlpgdndpaaDoorW.PrintLast Go.Proofs.YtbcbmmlpgdndpaaDoorW.PrintMore Go.Proofs.YtbcbmmlpgdndpaaDoor.R Go.Proofs.YtbcbmmlpgdndpaaDoor.P1
theorem zeroF : ∀ w, (zeroValue 32).run Tryd.prog w = .ok (.agg #[.string ⟨#[]⟩, .string ⟨#[]⟩]) w := Tryd.zeroValue32
theorem run_clear_F (w : World) (ty : TypeId) (b o n c : Nat) (hn : 0 < n) (hc : ∀ j, j < n * 2 → (w.cell? ⟨b, o + j, none⟩).isSome = true) (hf : ∀ j, j < n * 2 → w.frozen? ⟨b, o + j, none⟩ = false) :
    (Builtin.clear_ #[22] ty #[.slice (some ⟨b, o, none⟩) n c]).run Tryd.prog w = .ok (.tuple #[]) (w.setCells b o (List.replicate (n * 2) (.string ⟨#[]⟩))) := by
  have hzc : (Builtin.zeroCells (#[.string ⟨#[]⟩, .string ⟨#[]⟩] : Array Value) n).toList = List.replicate (n * 2) (.string ⟨#[]⟩) := by
    simp [Builtin.zeroCells]
    apply List.ext_getElem
    · simp
    · intro i h1 h2
      have : i % 2 = 0 ∨ i % 2 = 1 := by omega
      rcases this with h | h <;> simp [h]
  have hst := run_storeCells_cells (P := Tryd.prog) b o (List.replicate (n * 2) (.string ⟨#[]⟩)) 0 w (by simpa using hc) (by simpa using hf) (by intro v hv'; rw [List.eq_of_mem_replicate hv']; rfl)
  simp only [Nat.add_zero] at hst
  obtain ⟨m, rfl⟩ : ∃ m, n = m + 1 := ⟨n - 1, by omega⟩
  simp [Builtin.clear_, run_underlying Tryd.underlying22, zeroF, Value.cells, hzc, hst]
theorem heap_setCells (g : Nat) : ∀ (vs : List Value) (o : Nat) (w : World) (cur : Array Value) (t : TypeId) (fr : Nat × Nat), w.heap[g]? = some (.cells cur t fr) →
    ∃ cur', (w.setCells g o vs).heap[g]? = some (.cells cur' t fr) ∧ cur'.size = cur.size ∧ ∀ j, j < o → cur'[j]? = cur[j]?
  | [], o, w, cur, t, fr, h => ⟨cur, h, rfl, fun _ _ => rfl⟩
  | v :: vs, o, w, cur, t, fr, h => by
    obtain ⟨cur', h1, h2, h3⟩ := heap_setCells g vs (o + 1) (w.setCell ⟨g, o, none⟩ v) (cur.setIfInBounds o v) t fr (setCell_blk (j := o) v h)
    refine ⟨cur', h1, by rw [h2, Array.size_setIfInBounds], fun j hj => ?_⟩
    rw [h3 j (by omega), Array.getElem?_setIfInBounds_ne (by omega)]
theorem below_cellsF {B g : Nat} {a : World} (hB : B ≤ g) : ∀ (vs : List Value) (o : Nat) (w : World), Below B a w → Below B a (w.setCells g o vs)
  | [], _, _, h => h
  | v :: vs, o, w, h => below_cellsF hB vs (o + 1) (w.setCell ⟨g, o, none⟩ v) (h.setCell (p := ⟨g, o, none⟩) hB v)
theorem RowF.cleared {g cap : Nat} {W : World} {m : List Fld} (h : RowF g cap W m) (i : Nat) (vs : List Value) : RowF g cap (W.setCells g (i * 2) vs) (m.take i) := by
  obtain ⟨cur, h1, h2, h3, h4, h5⟩ := h
  obtain ⟨cur', k1, k2, k3⟩ := heap_setCells g vs (i * 2) W cur _ _ h1
  refine ⟨cur', k1, by rw [k2]; exact h2, by rw [List.length_take]; omega, h4, fun j x hj => ?_⟩
  rw [List.getElem?_take] at hj
  split at hj
  · obtain ⟨a, b⟩ := h5 j x hj
    exact ⟨(k3 _ (by omega)).trans a, (k3 _ (by omega)).trans b⟩
  · cases hj
def lackN (n : List UInt8) (x : Fld) : Bool := !hasN n x
def dropN (n : List UInt8) (l : List Fld) : List Fld := l.filter (lackN n)
theorem dropN_none (n : List UInt8) (l : List Fld) (h : ∀ x ∈ l, hasN n x = false) : dropN n l = l := List.filter_eq_self.2 (fun x hx => by unfold lackN; rw [h x hx]; rfl)
theorem dropN_take (n : List UInt8) (l : List Fld) (j : Nat) (hj : j < l.length) : dropN n (l.take (j + 1)) = dropN n (l.take j) ++ (if hasN n l[j] then [] else [l[j]]) := by
  unfold dropN
  rw [List.take_succ_eq_append_getElem hj, List.filter_append]
  congr 1
  unfold lackN
  by_cases h : hasN n l[j] = true
  · rw [if_pos h, List.filter_cons_of_neg (by rw [h]; decide)]; rfl
  · rw [if_neg h, List.filter_cons_of_pos (by simpa using h)]; rfl
theorem dropN_start (n : List UInt8) (l : List Fld) (k : Nat) (hk : k < l.length) (hq : hasN n l[k] = true) (h0 : ∀ x ∈ l.take k, hasN n x = false) : l.take k = dropN n (l.take (k + 1)) := by
  rw [dropN_take n l k hk, if_pos hq, List.append_nil, dropN_none n _ h0]
/-- what stands between two rounds -/
structure DelSt (n : List UInt8) (l m' : List Fld) (i j : Nat) : Prop where
  lt : i < j
  le : j ≤ l.length
  len : m'.length = l.length
  front : m'.take i = dropN n (l.take j)
  back : m'.drop j = l.drop j
theorem DelSt.at {n : List UInt8} {l m' : List Fld} {i j : Nat} (h : DelSt n l m' i j) (hj : j < l.length) : m'[j]? = some l[j] := by
  have := congrArg (fun t => t[0]?) h.back
  simp only [List.getElem?_drop, Nat.add_zero] at this
  rw [this, List.getElem?_eq_getElem hj]
theorem DelSt.skip {n : List UInt8} {l m' : List Fld} {i j : Nat} (h : DelSt n l m' i j) (hj : j < l.length) (hq : hasN n l[j] = true) : DelSt n l m' i (j + 1) := by
  refine ⟨by have := h.lt; omega, by omega, h.len, ?_, ?_⟩
  · rw [dropN_take n l j hj, if_pos hq, List.append_nil]; exact h.front
  · rw [← List.drop_drop, h.back, List.drop_drop]
theorem DelSt.more {n : List UInt8} {l m' : List Fld} {i j : Nat} (h : DelSt n l m' i j) (hj : j < l.length) (hq : hasN n l[j] = false) : DelSt n l (m'.set i l[j]) (i + 1) (j + 1) := by
  have hlt := h.lt
  have hle := h.le
  have hlen := h.len
  refine ⟨by omega, by omega, by rw [List.length_set]; exact h.len, ?_, ?_⟩
  · rw [dropN_take n l j hj, if_neg (by rw [hq]; decide), List.take_succ_eq_append_getElem (by rw [List.length_set]; omega), List.getElem_set_self, List.take_set_of_le (Nat.le_refl _), h.front]
  · rw [List.drop_set_of_lt (by omega), ← List.drop_drop, h.back, List.drop_drop]
theorem DelSt.done {n : List UInt8} {l m' : List Fld} {i j : Nat} (h : DelSt n l m' i j) (hj : j = l.length) : m'.take i = dropN n l := by
  subst hj
  have := h.front
  rwa [List.take_length] at this
set_option maxHeartbeats 4000000 in
set_option maxRecDepth 100000 in
theorem delF_calls (base g cap b : Nat) (l : List Fld) (n : ByteArray) (w : World) (hg : base ≤ g) (hbw : base ≤ w.heap.size) (hR : RowF g cap w l) (hb : w.heap[b]? = some (.cells #[.string n] 9 (0, 0))) (hn : l.length ≤ 1073741824) :
    Calls Tryd.prog 38 #[.slice (some ⟨g, 0, none⟩) l.length cap, .func (.func 56) #[] #[.pointer (some ⟨b, 0, none⟩)]] w fun e w' => ∃ m, e = .returned (.slice (some ⟨g, 0, none⟩) m.length cap) ∧ m = dropN n.data.toList l ∧ RowF g cap w' m ∧ Below base w w' := by
  have hgb : g ≠ b := by
    rintro rfl
    obtain ⟨cur, h1, _⟩ := hR
    rw [hb] at h1
    cases h1
  have hC : Kd.C kF w (some ⟨g, 0, none⟩) l.length l := (Kd.R_reads' (hR.to_R hg)).2.2
  have hidx := idx_named (some ⟨g, 0, none⟩) cap l n b w w (Below.refl _ _) (by rw [Lib.cell_of_heap hb]; rfl) hn hC
  have hncap : l.length ≤ cap := by obtain ⟨_, _, _, h, _⟩ := hR; exact h
  have HR := Lib.hid hR
  have HB := Lib.hid hb
  clear hC hR hb
  generalize hnl : l.length = m at *
  go_enter Tryd.func38, Tryd.ntmps38
  go_wp2_with fail
  refine hidx.mono ?_
  rintro e w1 ⟨r, rfl, hr, hb1⟩
  rw [← hnl] at hr
  have hs := hit_split l n.data.toList r hr
  clear hidx hr
  have HR1 := Lib.hid (HR.out.below hb1)
  have HB1 := Lib.hid ((hb1.block b (Array.getElem?_eq_some_iff.1 HB.out).1).trans HB.out)
  have HW1 := Lib.hid (hb1.mono hbw)
  clear hb1 HR HB
  rcases hs with ⟨rfl, hno⟩ | ⟨k, hk, rfl, hq, h0⟩
  · have HD := Lib.hid (dropN_none n.data.toList l hno)
    clear hno
    go_wp2
    go_ret
    exact ⟨l, by rw [← hnl]; rfl, HD.out.symm, HR1.out, HW1.out⟩
  · have hkm : k < m := by omega
    have HS := Lib.hid (show DelSt n.data.toList l l k (k + 1) from ⟨by omega, by omega, rfl, dropN_start _ l k hk hq h0, rfl⟩)
    have HNL := Lib.hid hnl
    clear hk hq h0 hnl
    have w1k : IntKind.i64.wrap ((k : Int) + 1) = ((k + 1 : Nat) : Int) := wrap_small _ (by omega) (by omega)
    go_wp2
    go_loopg [5, 6] m (fun gg v5 v6 wr => ∃ (i j : Nat) (m' : List Fld), j ≤ m ∧ i < j ∧ m - j ≤ gg ∧ v5 = .int .i64 i ∧ v6 = .int .i64 j ∧ Hid (DelSt n.data.toList l m' i j) ∧ Hid (RowF g cap wr m') ∧ Hid (wr.heap[b]? = some (.cells #[.string n] 9 (0, 0))) ∧ Hid (Below base w wr))
    case atStart => exact ⟨k, k + 1, l, by omega, by omega, by omega, rfl, by first | rfl | go_num, HS, HR1, HB1, HW1⟩
    case round =>
      clear HS HR1 HB1 HW1 w1k hkm
      obtain ⟨i, j, m', hjm, hij, hgg, rfl, rfl, HS, HR, HB, HW⟩ := hrel
      by_cases hlt : j < m
      · have hltz : (j : Int) < (m : Int) := by omega
        have hjl : j < l.length := by rw [HNL.out]; exact hlt
        have hat := HS.out.at hjl
        obtain ⟨k0, k1⟩ := HR.out.cell hat
        have HSK := Lib.hid (fun hq => HS.out.skip hjl hq)
        have HMO := Lib.hid (fun hq => HS.out.more hjl hq)
        have hil : i < m'.length := by rw [HS.out.len, HNL.out]; omega
        have hii : m'[i]? = some m'[i] := List.getElem?_eq_getElem hil
        generalize l[j] = x at *
        clear hat hjl
        have c0 := (HR.out.cell hii).1
        have c1 := (HR.out.cell hii).2
        generalize m'[i] = y at *
        clear hii
        have HX := Lib.hid (heap_new wr (.cells #[.string x.f0, .string x.f1] 32))
        have HBA := Lib.hid ((Below.refl wr.heap.size wr).alloc (Nat.le_refl _) (.cells #[.string x.f0, .string x.f1] 32))
        have hblt := (Array.getElem?_eq_some_iff.1 HB.out).1
        have hcall := named1_calls x.f0 x.f1 n b (wr.alloc (.cells #[.string x.f0, .string x.f1] 32)) (by rw [Lib.cell_of_heap ((HBA.out.block b hblt).trans HB.out)]; rfl)
        have he : (x.f0.toList == n.toList) = hasN n.data.toList x := by unfold hasN keyF; rw [Go.ByteArray.toList_eq, Go.ByteArray.toList_eq]
        rw [he] at hcall
        clear he
        have hpost : ∀ w2, Below (wr.alloc (.cells #[.string x.f0, .string x.f1] 32)).heap.size (wr.alloc (.cells #[.string x.f0, .string x.f1] 32)) w2 →
            w2.cell? ⟨wr.heap.size, 0, none⟩ = some (.string x.f0) ∧ w2.cell? ⟨wr.heap.size, 1, none⟩ = some (.string x.f1) ∧ Hid (RowF g cap w2 m') ∧ Hid (w2.heap[b]? = some (.cells #[.string n] 9 (0, 0))) ∧ Hid (Below base w w2) ∧ w2.cell? ⟨g, i * 2, none⟩ = some (.string y.f0) ∧ w2.cell? ⟨g, i * 2 + 1, none⟩ = some (.string y.f1) ∧ (∀ q, w2.frozen? ⟨g, q, none⟩ = false) ∧ wr.heap.size ≠ g := by
          intro w2 hb2
          have hs1 : (wr.alloc (.cells #[.string x.f0, .string x.f1] 32)).heap.size = wr.heap.size + 1 := by simp
          have hx2 := (hb2.block wr.heap.size (by omega)).trans HX.out
          have hall : Below wr.heap.size wr w2 := HBA.out.trans (hb2.mono (by omega))
          have hr2 := HR.out.below hall
          have hglt := HR.out.lt
          refine ⟨by rw [Lib.cell_of_heap hx2]; rfl, by rw [Lib.cell_of_heap hx2]; rfl, Lib.hid hr2, Lib.hid ((hall.block b hblt).trans HB.out), Lib.hid (HW.out.trans (hall.mono (Nat.le_trans hbw HW.out.size))), by rw [hall.cell hglt]; exact c0, by rw [hall.cell hglt]; exact c1, fun q => hr2.frozen q, by omega⟩
        clear c0 c1 HX HBA hblt HR HB HW HS
        have wj : IntKind.i64.wrap ((j : Int) + 1) = ((j + 1 : Nat) : Int) := wrap_small _ (by omega) (by omega)
        have wi : IntKind.i64.wrap ((i : Int) + 1) = ((i + 1 : Nat) : Int) := wrap_small _ (by omega) (by omega)
        have him : (i : Int) < (m : Int) := by omega
        cases hq : hasN n.data.toList x with
        | true =>
          rw [hq] at hcall
          have HSK' := Lib.hid (HSK.out hq)
          clear HSK HMO hq
          go_wp2_with fail
          refine hcall.mono ?_
          rintro e w2 ⟨rfl, hb2⟩
          obtain ⟨_, _, HR2, HB2, HW2, _, _, _, _⟩ := hpost w2 hb2
          clear hcall hpost hb2
          go_wp2
          go_roundg (m - (j + 1))
          case measure => omega
          case rel => exact ⟨i, j + 1, m', by omega, by omega, by omega, rfl, by first | rfl | go_num, HSK', HR2, HB2, HW2⟩
        | false =>
          rw [hq] at hcall
          have HMO' := Lib.hid (HMO.out hq)
          clear HSK HMO hq
          go_wp2_with fail
          refine hcall.mono ?_
          rintro e w2 ⟨rfl, hb2⟩
          obtain ⟨d0, d1, HR2, HB2, HW2, e0, e1, hfz, hgne⟩ := hpost w2 hb2
          have z0 := hfz (i * 2)
          have z1 := hfz (i * 2 + 1)
          clear hcall hpost hb2 hfz
          go_wp2
          go_roundg (m - (j + 1))
          case measure => omega
          case rel =>
            refine ⟨i + 1, j + 1, m'.set i x, by omega, by omega, by omega, by first | rfl | go_num, by first | rfl | go_num, HMO', Lib.hid (HR2.out.set i x hil), Lib.hid ?_, Lib.hid ?_⟩
            · exact (Below.heap_setCell _ _ _ _ (fun e => hgb e.symm)).trans ((Below.heap_setCell _ _ _ _ (fun e => hgb e.symm)).trans HB2.out)
            · exact (HW2.out.setCell (p := ⟨g, i * 2, none⟩) hg _).setCell (p := ⟨g, i * 2 + 1, none⟩) hg _
      · have hltz : ¬ (j : Int) < (m : Int) := by omega
        have hdone := Lib.hid (HS.out.done (by rw [HNL.out]; omega))
        have him : i < m := by omega
        have hml : m'.length = m := by rw [HS.out.len, HNL.out]
        obtain ⟨i0, hi0, _, hsz0, _⟩ := info_parts info32
        have hcut : ∀ W9 : World, (Instr.slice 22 (.slice (some ⟨g, 0, none⟩) m cap) (some (.int .i64 i)) none none).run Tryd.prog W9 = .ok (.slice (some ⟨g, i * 2, none⟩) (m - i) (cap - i)) W9 := by
          intro W9
          have h := cut_from (P := Tryd.prog) 22 32 .i64 Tryd.underlying22 hi0 2 hsz0 (some ⟨g, 0, none⟩) m cap i (by omega) (by omega) W9
          rw [h, Int.toNat_natCast, if_neg (by omega)]
          simp [add_mk]
        have hcut2 : ∀ W9 : World, (Instr.slice 22 (.slice (some ⟨g, 0, none⟩) m cap) none (some (.int .i64 i)) none).run Tryd.prog W9 = .ok (.slice (some ⟨g, 0, none⟩) i cap) W9 := by
          intro W9
          have h := cut_to (P := Tryd.prog) 22 32 .i64 Tryd.underlying22 hi0 (some ⟨g, 0, none⟩) m cap i (by omega) (by omega) hncap W9
          rw [h, Int.toNat_natCast]
        have hcells : ∀ q, q < (m - i) * 2 → (wr.cell? ⟨g, i * 2 + q, none⟩).isSome = true := by
          intro q hq
          obtain ⟨cur, h1, h2, _⟩ := HR.out
          rw [Lib.cell_of_heap h1, Array.getElem?_eq_getElem (by omega)]; rfl
        have hclear := fun ty => run_clear_F wr ty g (i * 2) (m - i) (cap - i) (by omega) hcells (fun q _ => HR.out.frozen _)
        have HRC := Lib.hid (HR.out.cleared i (List.replicate ((m - i) * 2) (.string ⟨#[]⟩)))
        have HBC := Lib.hid (below_cellsF hg (List.replicate ((m - i) * 2) (.string ⟨#[]⟩)) (i * 2) wr HW.out)
        have HTL := Lib.hid (show (m'.take i).length = i by rw [List.length_take]; omega)
        clear hcells HS hi0 hsz0 HR HW
        generalize wr.setCells g (i * 2) (List.replicate ((m - i) * 2) (.string ⟨#[]⟩)) = W5 at *
        go_wp2
        go_ret
        exact ⟨m'.take i, by rw [HTL.out]; rfl, hdone.out, HRC.out, HBC.out⟩
theorem qdrop_any (A : Option Addr) (c : Nat) (l : List Fld) (n : ByteArray) (w : World) (hn : l.length ≤ 1073741824) (hC : Kd.C kF w A l.length l) (hc : l.length ≤ c) :
    Calls Tryd.prog 18 #[.slice A l.length c, .string n] w fun e w' => ∃ v, e = .returned v ∧ Kd.R kF 32 w' w.heap.size (fun _ => True) v (dropN n.data.toList l) ∧ Below w.heap.size w w' := by
  have hcl := cloneF_calls A c l w hC hc (by omega)
  have HN := Lib.hid hn
  clear hC hn hc
  generalize hnl : l.length = m at *
  go_enter Tryd.func18, Tryd.ntmps18
  go_wp2_with fail
  refine hcl.mono ?_
  rintro e w1 ⟨v, rfl, hR, hb1⟩
  clear hcl
  have hnm := named_calls n w1
  have HW1 := Lib.hid hb1
  have HRR := Lib.hid hR
  clear hb1 hR
  go_wp2_with fail
  refine hnm.mono ?_
  rintro e w2 ⟨rfl, rfl⟩
  clear hnm
  have hB2 : Below w1.heap.size w1 (w1.alloc (.cells #[.string n] 9)) := (Below.refl _ w1).alloc (Nat.le_refl _) _
  have hbx := heap_new w1 (.cells #[.string n] 9)
  have HW2 := Lib.hid (HW1.out.trans (hB2.mono HW1.out.size))
  rcases R_rowF HRR.out with ⟨rfl, rfl⟩ | ⟨g, cap, rfl, hg, hrow⟩
  · have hC0 : Kd.C kF (w1.alloc (.cells #[.string n] 9)) none ([] : List Fld).length [] := Kd.C_nil _ _
    have hidx := idx_named none 0 [] n w1.heap.size _ _ (Below.refl _ _) (by rw [Lib.cell_of_heap hbx]; rfl) (by simp) hC0
    have hdel : Calls Tryd.prog 38 #[.slice none 0 0, .func (.func 56) #[] #[.pointer (some ⟨w1.heap.size, 0, none⟩)]] (w1.alloc (.cells #[.string n] 9)) fun e w' => e = .returned (.slice none 0 0) ∧ Below (w1.alloc (.cells #[.string n] 9)).heap.size (w1.alloc (.cells #[.string n] 9)) w' := by
      clear hbx hB2
      generalize w1.alloc (.cells #[.string n] 9) = w2 at *
      go_enter Tryd.func38, Tryd.ntmps38
      go_wp2_with fail
      refine hidx.mono ?_
      rintro e w3 ⟨r, rfl, hr, hb3⟩
      have hr1 : r = -1 := by
        rcases hr with ⟨h, _⟩ | ⟨k, _, hk, _⟩
        · exact h
        · simp at hk
      subst hr1
      clear hidx hr
      go_wp2
      go_ret
      exact ⟨rfl, hb3⟩
    clear hidx hC0 hbx hB2 HW1
    generalize w1.alloc (.cells #[.string n] 9) = w2 at *
    go_wp2_with fail
    refine hdel.mono ?_
    rintro e w3 ⟨rfl, hb3⟩
    have HB3 := Lib.hid (HW2.out.trans (hb3.mono HW2.out.size))
    clear hdel hb3
    go_wp2
    go_ret
    exact ⟨_, rfl, Kd.R_nil _ _ _ _ _, HB3.out⟩
  · have hdel := delF_calls w.heap.size g cap w1.heap.size l n _ hg HW2.out.size (hrow.below hB2) hbx (by rw [hnl]; exact HN.out)
    rw [hnl] at hdel
    clear hrow hbx hB2 HW1 HRR
    generalize w1.alloc (.cells #[.string n] 9) = w2 at *
    go_wp2_with fail
    try rw [hnl]
    refine hdel.mono ?_
    rintro e w3 ⟨m', rfl, hm', hrow3, hb3⟩
    have HB3 := Lib.hid (HW2.out.trans hb3)
    have HR3 := Lib.hid (hrow3.to_R hg)
    have HM := Lib.hid hm'
    clear hdel hb3 hrow3 hm'
    go_wp2
    go_ret
    exact ⟨_, rfl, by rw [← HM.out]; exact HR3.out, HB3.out⟩
def query_Drop.f (l0 : List Fld) (a1 : ByteArray) : Option (List Fld) := if l0.length ≤ 1073741824 then some (dropN a1.data.toList l0) else none
theorem query_Drop.calls (A0 : Option Addr) (c0 : Nat) (l0 : List Fld) (a1 : ByteArray) (r : List Fld) (w : World) (hr0 : Kd.C kF w A0 l0.length l0) (hc0 : l0.length ≤ c0) (hT : UTabs w) (h : query_Drop.f l0 a1 = some r) :
    Calls Tryd.prog 18 #[.slice A0 l0.length c0, .string a1] w fun e w' => ∃ v0_ : Value, e = .returned (v0_) ∧ Kd.R kF 32 w' w.heap.size (fun _ => True) v0_ r ∧ Below w.heap.size w w' := by
  unfold query_Drop.f at h
  split at h
  · rename_i hs
    cases h
    exact qdrop_any A0 c0 l0 a1 w hs hr0 hc0
  · cases h
end Go.Proofs.YtbcbmmlpgdndpaaDoor.Q
