/- query.Find: what it answers. -/
/- query.Sort: what it answers. -/
import Derived.Test.YtbcbmmlpgdndpaaDoorSFRow
import Derived.Test.YtbcbmmlpgdndpaaDoorSB9
import Derived.Test.YtbcbmmlpgdndpaaDoorSSrtG
import Derived.Test.YtbcbmmlpgdndpaaDoorSB4
import Derived.Test.YtbcbmmlpgdndpaaDoorSQquery1
section
set_option linter.unusedSimpArgs false
set_option linter.unusedVariables false
namespace Go.Proofs.YtbcbmmlpgdndpaaDoor.Q
open Go.RowKit Go.Proofs.YtbcbmmlpgdndpaaDoorW.PrintWords Go.Proofs.YtbcbmmlpgdndpaaDoorW.PrintLast Go.Proofs.YtbcbmmlpgdndpaaDoorW.PrintMore Go.Proofs.YtbcbmmlpgdndpaaDoor.R Go.Proofs.YtbcbmmlpgdndpaaDoor.P1
/-- a pair's name -/
def keyF (x : Fld) : List UInt8 := x.f0.data.toList
def hasN (n : List UInt8) (x : Fld) : Bool := keyF x == n
/-- the first of the name: where it stands -/
theorem idx_named (A : Option Addr) (c : Nat) (l : List Fld) (n : ByteArray) (b : Nat) (w0 w : World) (hb : Below w0.heap.size w0 w) (hcb : w.cell? ⟨b, 0, none⟩ = some (.string n)) (hn : l.length ≤ 1073741824) (hC : Kd.C kF w0 A l.length l) :
    Calls Tryd.prog 35 #[.slice A l.length c, .func (.func 56) #[] #[.pointer (some ⟨b, 0, none⟩)]] w fun e w' => ∃ r, e = .returned (.int .i64 r) ∧ hitAt (fun j => hasN n.data.toList (rd_T32 l j)) l.length r ∧ Below w.heap.size w w' := by
  have h := fldIdx_calls A c l (fun x _ => x.toList == n.toList) 56 #[.pointer (some ⟨b, 0, none⟩)] (enters_of Tryd.func56 (by kernel_rfl) rfl) w (by omega) (Kd.C_below hC hb)
    (fun W x v hW => named1_calls x v n b W (by rw [hW.cell (World.block_lt_of_cell? _ _ hcb)]; exact hcb))
  refine h.mono ?_
  rintro e w' ⟨r, he, hr, hb'⟩
  refine ⟨r, he, ?_, hb'⟩
  have e1 : (fun j : Nat => (rd_T32 l j).f0.toList == n.toList) = fun j : Nat => hasN n.data.toList (rd_T32 l j) := by
    funext j
    unfold hasN keyF
    rw [Go.ByteArray.toList_eq, Go.ByteArray.toList_eq]
  rw [← e1]; exact hr
theorem hit_split (l : List Fld) (n : List UInt8) (r : Int) (h : hitAt (fun j => hasN n (rd_T32 l j)) l.length r) :
    (r = -1 ∧ ∀ x ∈ l, hasN n x = false) ∨ ∃ (k : Nat) (hk : k < l.length), r = k ∧ hasN n l[k] = true ∧ ∀ x ∈ l.take k, hasN n x = false := by
  rcases h with ⟨rfl, h⟩ | ⟨k, rfl, hk, hq, h⟩
  · refine .inl ⟨rfl, fun x hx => ?_⟩
    obtain ⟨j, hj, rfl⟩ := List.mem_iff_getElem.1 hx
    have := h j hj
    simp only [rd_F l j hj] at this
    exact this
  · refine .inr ⟨k, hk, rfl, ?_, fun x hx => ?_⟩
    · simp only [rd_F l k hk] at hq; exact hq
    · obtain ⟨j, hj, rfl⟩ := List.mem_iff_getElem.1 hx
      have hjk : j < k := by rw [List.length_take] at hj; omega
      have := h j hjk
      simp only [rd_F l j (by omega)] at this
      rw [List.getElem_take]; exact this
def findQ (n : List UInt8) (l : List Fld) : Option Fld := l.find? (hasN n)
theorem find_none (n : List UInt8) (l : List Fld) (h : ∀ x ∈ l, hasN n x = false) : findQ n l = none := List.find?_eq_none.2 (fun x hx => by rw [h x hx]; decide)
theorem find_some (n : List UInt8) (l : List Fld) (k : Nat) (hk : k < l.length) (h : hasN n l[k] = true) (h0 : ∀ x ∈ l.take k, hasN n x = false) : findQ n l = some l[k] := by
  unfold findQ
  rw [List.find?_eq_some_iff_getElem]
  refine ⟨h, k, hk, rfl, fun j hj => ?_⟩
  have := h0 l[j] (List.mem_iff_getElem.2 ⟨j, by rw [List.length_take]; omega, by rw [List.getElem_take]⟩)
  rw [this]; rfl
/-- a found pair's value -/
def valF : Option Fld → ByteArray × Bool
  | some x => (x.f1, true)
  | none => (⟨#[]⟩, false)
def query_Find.f (l0 : List Fld) (a1 : ByteArray) : Option (ByteArray × Bool) :=
  if l0.length ≤ 1073741824 then some (valF (findQ a1.data.toList l0)) else none
set_option maxHeartbeats 2000000 in
set_option maxRecDepth 100000 in
theorem qfind_any (A : Option Addr) (c : Nat) (l : List Fld) (n : ByteArray) (w : World) (hn : l.length ≤ 1073741824) (hC : Kd.C kF w A l.length l) :
    Calls Tryd.prog 17 #[.slice A l.length c, .string n] w fun e w' => e = .returned (.tuple #[.string (valF (findQ n.data.toList l)).1, .bool (valF (findQ n.data.toList l)).2]) ∧ Below w.heap.size w w' := by
  have HC := Lib.hid hC
  have HN := Lib.hid hn
  have hB1 : Below w.heap.size w (w.alloc (.cells #[.string n] 9)) := (Below.refl _ w).alloc (Nat.le_refl _) _
  have hcb : (w.alloc (.cells #[.string n] 9)).cell? ⟨w.heap.size, 0, none⟩ = some (.string n) := by rw [Lib.cell_of_heap (heap_new _ _)]; rfl
  have hidx := idx_named A c l n w.heap.size w _ hB1 hcb hn hC
  have hnm := named_calls n w
  have HB1 := Lib.hid hB1
  clear hC hn hcb hB1
  generalize hnl : l.length = m at *
  go_enter Tryd.func17, Tryd.ntmps17
  go_wp2_with fail
  refine hnm.mono ?_
  rintro e w1 ⟨rfl, rfl⟩
  clear hnm
  go_wp2_with fail
  refine hidx.mono ?_
  rintro e w2 ⟨r, rfl, hr, hb2⟩
  have HB2 := Lib.hid (HB1.out.trans (hb2.mono HB1.out.size))
  rw [← hnl] at hr
  have hs := hit_split l n.data.toList r hr
  clear hidx hb2 hr HB1
  rcases hs with ⟨rfl, hno⟩ | ⟨k, hk, rfl, hq, h0⟩
  · have HF := Lib.hid (find_none n.data.toList l hno)
    clear hno
    go_wp2
    go_ret2
    exact ⟨by rw [HF.out]; rfl, HB2.out⟩
  · have HF := Lib.hid (find_some n.data.toList l k hk hq h0)
    obtain ⟨ad, rfl, k0, k1⟩ := at_T32 (Kd.C_below HC.out HB2.out) (k : Int) (by omega) (by omega)
    rw [Int.toNat_natCast, rd_F l k hk] at k0 k1
    generalize l[k] = x at *
    have hkm : k < m := by omega
    clear hk hq h0
    go_wp2
    go_ret2
    exact ⟨by rw [HF.out]; rfl, HB2.out⟩
theorem query_Find.calls (A0 : Option Addr) (c0 : Nat) (l0 : List Fld) (a1 : ByteArray) (r1 : ByteArray) (r2 : Bool) (w : World) (hr0 : Kd.C kF w A0 l0.length l0) (hc0 : l0.length ≤ c0) (hT : UTabs w) (h : query_Find.f l0 a1 = some (r1, r2)) :
    Calls Tryd.prog 17 #[.slice A0 l0.length c0, .string a1] w fun e w' => e = .returned (.tuple #[.string r1, .bool r2]) ∧ Below w.heap.size w w' := by
  unfold query_Find.f at h
  split at h
  · rename_i hs
    refine (qfind_any A0 c0 l0 a1 w hs hr0).mono ?_
    rintro e w' ⟨rfl, hb⟩
    refine ⟨?_, hb⟩
    have h' := Option.some.inj h
    rw [h']
  · cases h
end Go.Proofs.YtbcbmmlpgdndpaaDoor.Q
end
section
set_option linter.unusedSimpArgs false
set_option linter.unusedVariables false
namespace Go.Proofs.YtbcbmmlpgdndpaaDoor.Q
open Go.RowKit Go.Proofs.YtbcbmmlpgdndpaaDoorW.PrintWords Go.Proofs.YtbcbmmlpgdndpaaDoorW.PrintLast Go.Proofs.YtbcbmmlpgdndpaaDoorW.PrintMore Go.Proofs.YtbcbmmlpgdndpaaDoor.R Go.Proofs.YtbcbmmlpgdndpaaDoor.P1 Go.Sort Go.Proofs.YtbcbmmlpgdndpaaDoor.St
/-- a pair's units -/
def keyU (x : Fld) : List Int := unitsL (keyF x)
def cF (x y : Fld) : Int := cmpU (keyU x) (keyU y)
theorem cmpF_all (w0 w : World) (hT : UTabs w0) (hb : Below w0.heap.size w0 w) : CmpF w0.heap.size w 40 #[] cF := by
  intro W x y hW hx hy
  have hTW : UTabs W := hT.below (hb.trans hW)
  have e1 : Ev (fun k => query_Sort_1.f k x.f0 x.f1 y.f0 y.f1) (cF x y) := by
    unfold query_Sort_1.f
    have sx : (keyF x).length ≤ 1048576 := hx
    have sy : (keyF y).length ≤ 1048576 := hy
    have lx := unitsL_len (keyF x)
    have ly := unitsL_len (keyF y)
    exact (units_ev (keyF x) (by omega)).bind ((units_ev (keyF y) (by omega)).bind ((compare_ev _ _ (by omega) (by omega)).bind (Ev.now _)))
  obtain ⟨k, hk⟩ := e1
  exact query_Sort_1.calls k x.f0 x.f1 y.f0 y.f1 _ W hTW (hk k (Nat.le_refl _))
theorem ltF_lex : ltF cF = fun a b => lexLt (keyU a) (keyU b) := by
  funext a b
  exact cmpU_lt (keyU a) (keyU b)
/-- a form in order -/
def sortL (l : List Fld) : List Fld := stab (leq fun a b => lexLt (keyU a) (keyU b)) l
theorem stable_sortL (d : Array Fld) : (stable (ltF cF) d.size d).toList = sortL d.toList := by
  rw [ltF_lex]
  exact stable_list (lex_tot keyU) (lex_tr keyU) d
set_option maxHeartbeats 4000000 in
set_option maxRecDepth 100000 in
theorem stable_nil (fv : Value) (w : World) :
    Calls Tryd.prog 57 #[.slice none 0 0, .int .i64 0, fv] w fun e w' => e = .returned (.tuple #[]) ∧ Below w.heap.size w w' := by
  have hins : Calls Tryd.prog 75 #[.slice none 0 0, .int .i64 0, .int .i64 0, fv] w fun e w' => e = .returned (.tuple #[]) ∧ Below w.heap.size w w' := by
    go_enter Tryd.func75, Tryd.ntmps75
    go_wp2
    go_loopg [8] 1 (fun gg v8 wr => v8 = .int .i64 1 ∧ wr = w)
    case atStart => exact ⟨rfl, rfl⟩
    case round =>
      obtain ⟨rfl, rfl⟩ := hrel
      go_wp2
      go_end0
      exact ⟨rfl, Below.refl _ _⟩
  go_enter Tryd.func57, Tryd.ntmps57
  go_wp2
  go_loopg [7, 8] 1 (fun gg v7 v8 wr => v7 = .int .i64 0 ∧ v8 = .int .i64 20 ∧ wr = w)
  case atStart => exact ⟨rfl, rfl, rfl⟩
  case round =>
    obtain ⟨rfl, rfl, rfl⟩ := hrel
    go_wp2_with fail
    refine hins.mono ?_
    rintro e w2 ⟨rfl, hb2⟩
    have HB2 := Lib.hid hb2
    clear hins hb2
    go_wp2
    go_loopg [6] 1 (fun gg v6 wq => v6 = .int .i64 20 ∧ wq = w2)
    case atStart => exact ⟨rfl, rfl⟩
    case round =>
      obtain ⟨rfl, rfl⟩ := hrel
      go_wp2
      go_end0
      exact ⟨rfl, HB2.out⟩
theorem qsort_any (A : Option Addr) (c : Nat) (l : List Fld) (w : World) (hT : UTabs w) (hn : l.length ≤ 1073741824) (hC : Kd.C kF w A l.length l) (hc : l.length ≤ c) (hs : ∀ x ∈ l, smallF x) :
    Calls Tryd.prog 19 #[.slice A l.length c] w fun e w' => ∃ v, e = .returned v ∧ Kd.R kF 32 w' w.heap.size (fun _ => True) v (sortL l) ∧ Below w.heap.size w w' := by
  have hcl := cloneF_calls A c l w hC hc (by omega)
  have HN := Lib.hid hn
  have HT := Lib.hid hT
  have HSM := Lib.hid hs
  clear hC hn hc hT hs
  generalize hnl : l.length = m at *
  go_enter Tryd.func19, Tryd.ntmps19
  go_wp2_with fail
  refine hcl.mono ?_
  rintro e w1 ⟨v, rfl, hR, hb1⟩
  clear hcl
  have HW1 := Lib.hid hb1
  rcases R_rowF hR with ⟨rfl, rfl⟩ | ⟨g, cap, rfl, hg, hrow⟩
  · have hst : Calls Tryd.prog 39 #[.slice none 0 0, .func (.func 40) #[] #[]] w1 fun e w' => e = .returned (.tuple #[]) ∧ Below w1.heap.size w1 w' := by
      have h0 := stable_nil (.func (.func 40) #[] #[]) w1
      clear hR hb1
      go_enter Tryd.func39, Tryd.ntmps39
      go_wp2_with fail
      refine h0.mono ?_
      rintro e w2 ⟨rfl, hb2⟩
      go_wp2
      go_end0
      exact ⟨rfl, hb2⟩
    clear hR hb1
    go_wp2_with fail
    refine hst.mono ?_
    rintro e w2 ⟨rfl, hb2⟩
    have HB2 := Lib.hid (HW1.out.trans (hb2.mono HW1.out.size))
    clear hst hb2
    go_wp2
    go_ret
    exact ⟨_, rfl, Kd.R_nil _ _ _ _ _, HB2.out⟩
  · have hRA : RowA g cap w1 l.toArray := ⟨hrow, HSM.out⟩
    have hst : Calls Tryd.prog 39 #[.slice (some ⟨g, 0, none⟩) m cap, .func (.func 40) #[] #[]] w1 fun e w' => e = .returned (.tuple #[]) ∧ RowF g cap w' (sortL l) ∧ Below w.heap.size w1 w' := by
      have h0 := stable_calls w.heap.size g cap hg 40 #[] cF (enters_of Tryd.func40 (by kernel_rfl) rfl) l.toArray w1 (cmpF_all w w1 HT.out HW1.out) hb1.size hRA (by rw [List.size_toArray, hnl]; have := HN.out; omega)
      have HSZ := Lib.hid (show l.toArray.size = m by rw [List.size_toArray]; exact hnl)
      rw [HSZ.out] at h0
      clear hR hb1 hRA hrow hnl
      go_enter Tryd.func39, Tryd.ntmps39
      go_wp2_with fail
      refine h0.mono ?_
      rintro e w2 ⟨rfl, hr2, hb2⟩
      have HR2 := Lib.hid (show RowF g cap w2 (sortL l) by
        have h3 := hr2.row
        have h4 := stable_sortL l.toArray
        rw [HSZ.out] at h4
        rw [h4] at h3
        exact h3)
      clear hr2 h0
      go_wp2
      go_end0
      exact ⟨rfl, HR2.out, hb2⟩
    clear hR hb1 hRA hrow
    have HNL := Lib.hid hnl
    clear hnl
    go_wp2_with fail
    try rw [HNL.out]
    refine hst.mono ?_
    rintro e w2 ⟨rfl, hr2, hb2⟩
    have HB2 := Lib.hid (HW1.out.trans hb2)
    have HR2 := Lib.hid (hr2.to_R hg)
    have HSL := Lib.hid (show (sortL l).length = l.length from stab_length l)
    clear hst hb2 hr2
    go_wp2
    go_ret
    refine ⟨_, rfl, ?_, HB2.out⟩
    have := HR2.out
    rw [HSL.out, HNL.out] at this
    exact this
def query_Sort.f (l0 : List Fld) : Option (List Fld) := if l0.length ≤ 1073741824 ∧ (l0.all fun x => decide (x.f0.size ≤ 1048576)) = true then some (sortL l0) else none
theorem query_Sort.calls (A0 : Option Addr) (c0 : Nat) (l0 : List Fld) (r : List Fld) (w : World) (hr0 : Kd.C kF w A0 l0.length l0) (hc0 : l0.length ≤ c0) (hT : UTabs w) (h : query_Sort.f l0 = some r) :
    Calls Tryd.prog 19 #[.slice A0 l0.length c0] w fun e w' => ∃ v0_ : Value, e = .returned (v0_) ∧ Kd.R kF 32 w' w.heap.size (fun _ => True) v0_ r ∧ Below w.heap.size w w' := by
  unfold query_Sort.f at h
  split at h
  · rename_i hs
    cases h
    exact qsort_any A0 c0 l0 w hT hs.1 hr0 hc0 (fun x hx => of_decide_eq_true (p := x.f0.size ≤ 1048576) (List.all_eq_true.1 hs.2 x hx))
  · cases h
end Go.Proofs.YtbcbmmlpgdndpaaDoor.Q
end
