/- query.Find: what it answers. -/
import Derived.Test.YtbcbmmlpgdndpaaDoorSFRow
import Derived.Test.YtbcbmmlpgdndpaaDoorSB7
set_option linter.unusedSimpArgs false
set_option linter.unusedVariables false
namespace Go.Proofs.YtbcbmmlpgdndpaaDoor.Q
open Go.RowKit Go.Proofs.YtbcbmmlpgdndpaaDoorW.PrintWords Go.Proofs.YtbcbmmlpgdndpaaDoorW.PrintLast Go.Proofs.YtbcbmmlpgdndpaaDoorW.PrintMore Go.Proofs.YtbcbmmlpgdndpaaDoor.R Go.Proofs.YtbcbmmlpgdndpaaDoor.P1
/-- a pair's name -/
def keyF (x : Fld) : List UInt8 := x.f0.data.toList
def hasN (n : List UInt8) (x : Fld) : Bool := keyF x == n
/-- the first of the name: where it stands -/
theorem idx_named (A : Option Addr) (c : Nat) (l : List Fld) (n : ByteArray) (b : Nat) (w0 w : World) (hb : Below w0.heap.size w0 w) (hcb : w.cell? ⟨b, 0, none⟩ = some (.string n)) (hn : l.length ≤ 1073741824) (hC : Kd.C kF w0 A l.length l) :
    Calls Tryd.prog 35 #[.slice A l.length c, .func (.func 56) #[] #[.pointer (some ⟨b, 0, none⟩)]] w fun e w' => ∃ r, e = .returned (.int .i64 r) ∧ hitAt (fun j => hasN n.data.toList (rd_T32 l j)) l.length r ∧ Below w.heap.size w w' := by
  have h := fldIdx_calls A c l (fun x _ => x.toList == n.toList) 56 #[.pointer (some ⟨b, 0, none⟩)] (enters_of Tryd.func56 (by kernel_rfl) rfl) w (by omega) (Kd.C_below hC hb)
    (fun W x v hW => named1_calls x v n b W (by rw [hW.cell (World.block_lt_of_cell? _ _ hcb)]; exact hcb))
  refine h.mono ?_
  rintro e w' ⟨r, he, hr, hb'⟩
  refine ⟨r, he, ?_, hb'⟩
  have e1 : (fun j : Nat => (rd_T32 l j).f0.toList == n.toList) = fun j : Nat => hasN n.data.toList (rd_T32 l j) := by
    funext j
    unfold hasN keyF
    rw [Go.ByteArray.toList_eq, Go.ByteArray.toList_eq]
  rw [← e1]; exact hr
theorem hit_split (l : List Fld) (n : List UInt8) (r : Int) (h : hitAt (fun j => hasN n (rd_T32 l j)) l.length r) :
    (r = -1 ∧ ∀ x ∈ l, hasN n x = false) ∨ ∃ (k : Nat) (hk : k < l.length), r = k ∧ hasN n l[k] = true ∧ ∀ x ∈ l.take k, hasN n x = false := by
  rcases h with ⟨rfl, h⟩ | ⟨k, rfl, hk, hq, h⟩
  · refine .inl ⟨rfl, fun x hx => ?_⟩
    obtain ⟨j, hj, rfl⟩ := List.mem_iff_getElem.1 hx
    have := h j hj
    simp only [rd_F l j hj] at this
    exact this
  · refine .inr ⟨k, hk, rfl, ?_, fun x hx => ?_⟩
    · simp only [rd_F l k hk] at hq; exact hq
    · obtain ⟨j, hj, rfl⟩ := List.mem_iff_getElem.1 hx
      have hjk : j < k := by rw [List.length_take] at hj; omega
      have := h j hjk
      simp only [rd_F l j (by omega)] at this
      rw [List.getElem_take]; exact this
def findQ (n : List UInt8) (l : List Fld) : Option Fld := l.find? (hasN n)
theorem find_none (n : List UInt8) (l : List Fld) (h : ∀ x ∈ l, hasN n x = false) : findQ n l = none := List.find?_eq_none.2 (fun x hx => by rw [h x hx]; decide)
theorem find_some (n : List UInt8) (l : List Fld) (k : Nat) (hk : k < l.length) (h : hasN n l[k] = true) (h0 : ∀ x ∈ l.take k, hasN n x = false) : findQ n l = some l[k] := by
  unfold findQ
  rw [List.find?_eq_some_iff_getElem]
  refine ⟨h, k, hk, rfl, fun j hj => ?_⟩
  have := h0 l[j] (List.mem_iff_getElem.2 ⟨j, by rw [List.length_take]; omega, by rw [List.getElem_take]⟩)
  rw [this]; rfl
/-- a found pair's value -/
def valF : Option Fld → ByteArray × Bool
  | some x => (x.f1, true)
  | none => (⟨#[]⟩, false)
def query_Find.f (l0 : List Fld) (a1 : ByteArray) : Option (ByteArray × Bool) :=
  if l0.length ≤ 1073741824 then some (valF (findQ a1.data.toList l0)) else none
set_option maxHeartbeats 2000000 in
set_option maxRecDepth 100000 in
theorem qfind_any (A : Option Addr) (c : Nat) (l : List Fld) (n : ByteArray) (w : World) (hn : l.length ≤ 1073741824) (hC : Kd.C kF w A l.length l) :
    Calls Tryd.prog 17 #[.slice A l.length c, .string n] w fun e w' => e = .returned (.tuple #[.string (valF (findQ n.data.toList l)).1, .bool (valF (findQ n.data.toList l)).2]) ∧ Below w.heap.size w w' := by
  have HC := Lib.hid hC
  have HN := Lib.hid hn
  have hB1 : Below w.heap.size w (w.alloc (.cells #[.string n] 9)) := (Below.refl _ w).alloc (Nat.le_refl _) _
  have hcb : (w.alloc (.cells #[.string n] 9)).cell? ⟨w.heap.size, 0, none⟩ = some (.string n) := by rw [Lib.cell_of_heap (heap_new _ _)]; rfl
  have hidx := idx_named A c l n w.heap.size w _ hB1 hcb hn hC
  have hnm := named_calls n w
  have HB1 := Lib.hid hB1
  clear hC hn hcb hB1
  generalize hnl : l.length = m at *
  go_enter Tryd.func17, Tryd.ntmps17
  go_wp2_with fail
  refine hnm.mono ?_
  rintro e w1 ⟨rfl, rfl⟩
  clear hnm
  go_wp2_with fail
  refine hidx.mono ?_
  rintro e w2 ⟨r, rfl, hr, hb2⟩
  have HB2 := Lib.hid (HB1.out.trans (hb2.mono HB1.out.size))
  rw [← hnl] at hr
  have hs := hit_split l n.data.toList r hr
  clear hidx hb2 hr HB1
  rcases hs with ⟨rfl, hno⟩ | ⟨k, hk, rfl, hq, h0⟩
  · have HF := Lib.hid (find_none n.data.toList l hno)
    clear hno
    go_wp2
    go_ret2
    exact ⟨by rw [HF.out]; rfl, HB2.out⟩
  · have HF := Lib.hid (find_some n.data.toList l k hk hq h0)
    obtain ⟨ad, rfl, k0, k1⟩ := at_T32 (Kd.C_below HC.out HB2.out) (k : Int) (by omega) (by omega)
    rw [Int.toNat_natCast, rd_F l k hk] at k0 k1
    generalize l[k] = x at *
    have hkm : k < m := by omega
    clear hk hq h0
    go_wp2
    go_ret2
    exact ⟨by rw [HF.out]; rfl, HB2.out⟩
theorem query_Find.calls (A0 : Option Addr) (c0 : Nat) (l0 : List Fld) (a1 : ByteArray) (r1 : ByteArray) (r2 : Bool) (w : World) (hr0 : Kd.C kF w A0 l0.length l0) (hc0 : l0.length ≤ c0) (hT : UTabs w) (h : query_Find.f l0 a1 = some (r1, r2)) :
    Calls Tryd.prog 17 #[.slice A0 l0.length c0, .string a1] w fun e w' => e = .returned (.tuple #[.string r1, .bool r2]) ∧ Below w.heap.size w w' := by
  unfold query_Find.f at h
  split at h
  · rename_i hs
    refine (qfind_any A0 c0 l0 a1 w hs hr0).mono ?_
    rintro e w' ⟨rfl, hb⟩
    refine ⟨?_, hb⟩
    have h' := Option.some.inj h
    rw [h']
  · cases h
end Go.Proofs.YtbcbmmlpgdndpaaDoor.Q
