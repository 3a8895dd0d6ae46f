/- slices.ContainsFunc over functions that are handed in; addr.all. -/
import Derived.Test.YtkabhnbjjnjdhaaDoorSAll
set_option linter.unusedSimpArgs false
set_option linter.unusedVariables false
namespace Go.Proofs.YtkabhnbjjnjdhaaDoor.Q
open Go.RowKit Go.Proofs.YtkabhnbjjnjdhaaDoorW.PrintWords Go.Proofs.YtkabhnbjjnjdhaaDoorW.PrintLast Go.Proofs.YtkabhnbjjnjdhaaDoorW.PrintMore
def hitAt (p : Nat → Bool) (n : Nat) (r : Int) : Prop := (r = -1 ∧ ∀ j, j < n → p j = false) ∨ ∃ k : Nat, r = k ∧ k < n ∧ p k = true ∧ ∀ j, j < k → p j = false
def fnV (g : Nat) : Value := .func (.func g) #[] #[]
/-- the row of functions -/
def fnsAt (w : World) (b : Nat) (gs : List Nat) : Prop := ∀ j, j < gs.length → w.cell? ⟨b, j, none⟩ = some (fnV (gs.getD j 0))
set_option maxHeartbeats 2000000 in
theorem fnIdx_calls (b : Nat) (c : Nat) (gs : List Nat) (q : Nat → Bool) (g : Nat) (lb : Array Value) (eg : ∀ args w, (callFunc g args).run Tryd.prog w = .ok (.enter g args) w) (w : World) (hn : gs.length ≤ 140737488355328)
    (hC : fnsAt w b gs) (hb0 : b < w.heap.size)
    (hp : ∀ (W : World) j, j < gs.length → Below w.heap.size w W → Calls Tryd.prog g (#[fnV (gs.getD j 0)] ++ lb) W fun e w' => e = .returned (.bool (q j)) ∧ Below W.heap.size W w') :
    Calls Tryd.prog 57 #[.slice (some ⟨b, 0, none⟩) gs.length c, .func (.func g) #[] lb] w fun e w' => ∃ r, e = .returned (.int .i64 r) ∧ hitAt q gs.length r ∧ Below w.heap.size w w' := by
  have HC := Lib.hid hC
  have HP := Lib.hid hp
  clear hC hp
  obtain ⟨n, hnl⟩ : ∃ n, gs.length = n := ⟨_, rfl⟩
  have HNL := Lib.hid hnl
  rw [hnl] at hn ⊢
  clear hnl
  go_enter Tryd.func57, Tryd.ntmps57
  go_wp2
  go_loopg [5, 8] n (fun gg _ s8 wr => ∃ kk : Nat, kk ≤ n ∧ n - kk ≤ gg ∧ s8 = .int .i64 kk ∧ Hid (Below w.heap.size w wr) ∧ Hid (∀ j : Nat, j < kk → q j = false))
  case atStart => exact ⟨0, Nat.zero_le _, by omega, rfl, Lib.hid (Below.refl _ w), Lib.hid (fun j hj => absurd hj (Nat.not_lt_zero _))⟩
  case round =>
    obtain ⟨kk, hkk, hg, rfl, BW, HA⟩ := hrel
    by_cases hlt : kk < n
    · have hltz : (kk : Int) < (n : Int) := by omega
      have k0 : wr.cell? ⟨b, kk, none⟩ = some (fnV (gs.getD kk 0)) := (BW.out.cell hb0).trans (HC.out kk (by rw [HNL.out]; exact hlt))
      have hcall := HP.out wr kk (by rw [HNL.out]; exact hlt) BW.out
      generalize gs.getD kk 0 = gg0 at k0 hcall
      unfold fnV at k0 hcall
      cases hq : q kk with
      | true =>
        rw [hq] at hcall
        go_wp2_with fail
        refine hcall.mono ?_
        rintro e w' ⟨rfl, hb'⟩
        go_wp2
        go_ret
        exact ⟨_, rfl, .inr ⟨kk, rfl, hlt, hq, HA.out⟩, BW.out.trans (hb'.mono BW.out.size)⟩
      | false =>
        rw [hq] at hcall
        go_wp2_with fail
        refine hcall.mono ?_
        rintro e w' ⟨rfl, hb'⟩
        go_wp2
        go_roundg (n - (kk + 1))
        case measure => omega
        case rel =>
          refine ⟨kk + 1, by omega, by omega, by go_num, Lib.hid (BW.out.trans (hb'.mono BW.out.size)), Lib.hid (fun j hj => ?_)⟩
          by_cases e : j = kk
          · subst e; exact hq
          · exact HA.out j (by omega)
    · have hltz : ¬ (kk : Int) < (n : Int) := by omega
      obtain rfl : kk = n := by omega
      go_wp2
      go_ret
      exact ⟨_, rfl, .inl ⟨rfl, HA.out⟩, BW.out⟩
def anyN (q : Nat → Bool) (n : Nat) : Bool := (List.range n).any q
theorem hitAt_any (q : Nat → Bool) (n : Nat) (r : Int) (h : hitAt q n r) : decide (r ≥ 0) = anyN q n := by
  unfold anyN
  rcases h with ⟨rfl, h⟩ | ⟨k, rfl, hk, hq, _⟩
  · symm
    rw [show decide ((-1 : Int) ≥ 0) = false from rfl, List.any_eq_false]
    intro d hd
    rw [h d (List.mem_range.1 hd)]
    decide
  · rw [decide_eq_true (by omega)]
    symm
    rw [List.any_eq_true]
    exact ⟨k, List.mem_range.2 hk, hq⟩
theorem fnHas_calls (b : Nat) (c : Nat) (gs : List Nat) (q : Nat → Bool) (g : Nat) (lb : Array Value) (eg : ∀ args w, (callFunc g args).run Tryd.prog w = .ok (.enter g args) w) (w : World) (hn : gs.length ≤ 140737488355328)
    (hC : fnsAt w b gs) (hb0 : b < w.heap.size)
    (hp : ∀ (W : World) j, j < gs.length → Below w.heap.size w W → Calls Tryd.prog g (#[fnV (gs.getD j 0)] ++ lb) W fun e w' => e = .returned (.bool (q j)) ∧ Below W.heap.size W w') :
    Calls Tryd.prog 45 #[.slice (some ⟨b, 0, none⟩) gs.length c, .func (.func g) #[] lb] w fun e w' => e = .returned (.bool (anyN q gs.length)) ∧ Below w.heap.size w w' := by
  have hc := fnIdx_calls b c gs q g lb eg w hn hC hb0 hp
  have HA := Lib.hid (hitAt_any q gs.length)
  have e57 : ∀ args w, (callFunc 57 args).run Tryd.prog w = .ok (.enter 57 args) w := enters_of Tryd.func57 (by kernel_rfl) rfl
  clear hp hC
  generalize gs.length = n at *
  go_enter Tryd.func45, Tryd.ntmps45
  go_wp2_with fail
  refine hc.mono ?_
  rintro e w' ⟨r, rfl, hr, hb⟩
  have HR := Lib.hid hr
  clear hr hc
  go_wp2
  go_ret
  exact ⟨by rw [← HA.out r HR.out]; rfl, hb⟩
def allB (p : Nat → Int → Bool) (n : Nat) (s : ByteArray) : Bool := s.data.toList.all fun x => anyN (fun j => p j x.toNat) n
theorem allB_false {p : Nat → Int → Bool} {n : Nat} {s : ByteArray} {j : Nat} (hj : j < s.data.toList.length) (h : anyN (fun i => p i (s.data.toList[j]'hj).toNat) n = false) : allB p n s = false := by
  unfold allB
  rw [List.all_eq_false]
  exact ⟨_, List.getElem_mem hj, by rw [h]; decide⟩
theorem allB_true {p : Nat → Int → Bool} {n : Nat} {s : ByteArray} (h : ∀ j, (hj : j < s.data.toList.length) → anyN (fun i => p i (s.data.toList[j]'hj).toNat) n = true) : allB p n s = true := by
  unfold allB
  rw [List.all_eq_true]
  intro x hx
  obtain ⟨j, hj, rfl⟩ := List.mem_iff_getElem.1 hx
  exact h j hj
theorem allocSz (w : World) (o : Obj) : (w.alloc o).heap.size = w.heap.size + 1 := Array.size_push _
theorem allocCell (w : World) (v : Value) (t : TypeId) : (w.alloc (.cells #[v] t)).cell? ⟨w.heap.size, 0, none⟩ = some v := by
  unfold World.cell?
  rw [show (w.alloc (.cells #[v] t)).heap = w.heap.push (.cells #[v] t) from rfl]
  simp
set_option maxHeartbeats 4000000 in
/-- addr.all -/
theorem all_calls (b c : Nat) (gs : List Nat) (p : Nat → Int → Bool) (s : ByteArray) (w : World) (hn : gs.length ≤ 1000) (hs : s.size ≤ 140737488355328) (hgs : ∀ j, j < gs.length → okFn (gs.getD j 0) (p j))
    (hC : fnsAt w b gs) (hb0 : b < w.heap.size) :
    Calls Tryd.prog 30 #[.string s, .slice (some ⟨b, 0, none⟩) gs.length c] w fun e w' => e = .returned (.bool (allB p gs.length s)) ∧ Below w.heap.size w w' := by
  have HC := Lib.hid hC
  have HG := Lib.hid hgs
  have HN := Lib.hid hn
  have HB0 := Lib.hid hb0
  have e46 : ∀ args w, (callFunc 46 args).run Tryd.prog w = .ok (.enter 46 args) w := enters_of Tryd.func46 (by kernel_rfl) rfl
  have e45 : ∀ args w, (callFunc 45 args).run Tryd.prog w = .ok (.enter 45 args) w := enters_of Tryd.func45 (by kernel_rfl) rfl
  clear hC hgs hn hb0
  obtain ⟨n, hsz⟩ : ∃ n, s.size = n := ⟨_, rfl⟩
  have HSZ := Lib.hid hsz
  obtain ⟨gl, hgl⟩ : ∃ gl, gl = gs.length := ⟨_, rfl⟩
  rw [← hgl]
  have HGL := Lib.hid hgl
  clear hgl
  go_enter Tryd.func30, Tryd.ntmps30
  go_wp2
  rw [hsz] at hs
  clear hsz
  go_loopg [5, 8] n (fun gg _ s8 wr => ∃ kk : Nat, kk ≤ n ∧ n - kk ≤ gg ∧ s8 = .int .i64 kk ∧ Hid (Below (w.heap.size + 1) (w.alloc (.cells #[.string s] 9)) wr) ∧ Hid (∀ j : Nat, (hj : j < s.data.toList.length) → j < kk → anyN (fun i => p i (s.data.toList[j]'hj).toNat) gs.length = true))
  case atStart => exact ⟨0, Nat.zero_le _, by omega, rfl, Lib.hid (Below.refl _ _), Lib.hid (fun j _ hj => absurd hj (Nat.not_lt_zero _))⟩
  case round =>
    obtain ⟨kk, hkk, hg, rfl, BW, HA⟩ := hrel
    have hbw : Below w.heap.size w wr := ((Below.refl _ w).alloc (Nat.le_refl _) _).trans (BW.out.mono (by simp))
    have HBW := Lib.hid hbw
    clear hbw
    by_cases hlt : kk < n
    · have hltz : (kk : Int) < (n : Int) := by omega
      have hks : kk < s.size := by rw [HSZ.out]; exact hlt
      have hW : Below wr.heap.size wr (wr.alloc (.cells #[.int .i64 (kk : Int)] 3)) := (Below.refl _ wr).alloc (Nat.le_refl _) _
      have hcall := fnHas_calls b c gs (fun j => p j (s.data[kk]'hks).toNat) 46 #[.pointer (some ⟨w.heap.size, 0, none⟩), .pointer (some ⟨wr.heap.size, 0, none⟩)] e46 (wr.alloc (.cells #[.int .i64 (kk : Int)] 3)) (by have := HN.out; omega)
        (fun j hj => ((HBW.out.trans (hW.mono HBW.out.size)).cell HB0.out).trans (HC.out j hj)) (by have := HBW.out.size; have := HB0.out; rw [allocSz]; omega)
        (fun W' j hj hb' => all1_calls (gs.getD j 0) (p j) (HG.out j hj) s kk hks w.heap.size wr.heap.size W'
          ((hb'.cell (by have := HBW.out.size; have := BW.out.size; rw [allocSz] at *; show w.heap.size < _; omega)).trans ((hW.cell (by have := BW.out.size; rw [allocSz] at this; show w.heap.size < _; omega)).trans ((BW.out.cell (by show w.heap.size < _; omega)).trans (allocCell ..))))
          ((hb'.cell (by rw [allocSz]; show wr.heap.size < _; omega)).trans (allocCell ..)))
      rw [← HGL.out] at hcall
      have hkl : kk < s.data.toList.length := by rw [← Lib.size_eq]; exact hks
      have hel : s.data[kk]'hks = s.data.toList[kk]'hkl := rfl
      rw [hel] at hcall
      cases hq : anyN (fun j => p j (s.data.toList[kk]'hkl).toNat) gl with
      | true =>
        rw [hq] at hcall
        go_wp2_with fail
        refine hcall.mono ?_
        rintro e w' ⟨rfl, hb'⟩
        have hbn := BW.out.trans ((hW.trans (hb'.mono hW.size)).mono (by have := BW.out.size; rw [allocSz] at this; exact this))
        go_wp2
        go_roundg (n - (kk + 1))
        case measure => omega
        case rel =>
          refine ⟨kk + 1, by omega, by omega, by go_num, Lib.hid ?_, Lib.hid (fun j hj hj2 => ?_)⟩
          · exact hbn
          by_cases e : j = kk
          · subst e; rw [← HGL.out]; exact hq
          · exact HA.out j hj (by omega)
      | false =>
        rw [hq] at hcall
        have hall : allB p gl s = false := allB_false hkl hq
        go_wp2_with fail
        refine hcall.mono ?_
        rintro e w' ⟨rfl, hb'⟩
        go_wp2
        go_ret
        exact ⟨by first | rfl | (rw [hall]; rfl), HBW.out.trans ((hW.trans (hb'.mono hW.size)).mono HBW.out.size)⟩
    · have hltz : ¬ (kk : Int) < (n : Int) := by omega
      obtain rfl : kk = n := by omega
      have hall : allB p gl s = true := by rw [HGL.out]; exact allB_true fun j hj => HA.out j hj (by rw [← HSZ.out, Lib.size_eq]; exact hj)
      go_wp2
      go_ret
      exact ⟨by first | rfl | (rw [hall]; rfl), HBW.out⟩
end Go.Proofs.YtkabhnbjjnjdhaaDoor.Q
