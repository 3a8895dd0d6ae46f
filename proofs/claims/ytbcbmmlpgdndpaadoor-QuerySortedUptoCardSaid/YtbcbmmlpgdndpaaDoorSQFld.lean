/- Functions handed in: query.named and its closure, Print's; slices.IndexFunc and ContainsFunc of fields. -/
import Derived.Test.YtbcbmmlpgdndpaaDoorSB4
import Derived.Test.YtbcbmmlpgdndpaaDoorSB5
import Derived.WalkKit
import Derived.Deep.LoopGhost
import Derived.Lib.Hide
import Derived.Shelf.SlicesQ.Load
set_option linter.unusedSimpArgs false
set_option linter.unusedVariables false
namespace Go.Proofs.YtbcbmmlpgdndpaaDoor.Q
open Go.RowKit Go.Proofs.YtbcbmmlpgdndpaaDoorW.PrintWords Go.Proofs.YtbcbmmlpgdndpaaDoorW.PrintLast Go.Proofs.YtbcbmmlpgdndpaaDoorW.PrintMore
abbrev Fld := S32
abbrev kF := k32
/-- a pair that is too long -/
def longP (x v : ByteArray) : Bool := decide (4096 < max x.size v.size)
theorem long_calls (x v : ByteArray) (w : World) :
    Calls Tryd.prog 25 #[.agg #[.string x, .string v]] w fun e w' => e = .returned (.bool (longP x v)) ∧ Below w.heap.size w w' := by
  go_enter Tryd.func25, Tryd.ntmps25
  go_wp2
  go_ret
  refine ⟨?_, (Below.refl _ w).alloc (Nat.le_refl _) _⟩
  show Ending.returned (.bool (decide ((4096 : Int) < max (x.size : Int) (v.size : Int)))) = _
  unfold longP
  congr 2
  rw [decide_eq_decide]
  omega
def hitAt (p : Nat → Bool) (n : Nat) (r : Int) : Prop := (r = -1 ∧ ∀ j, j < n → p j = false) ∨ ∃ k : Nat, r = k ∧ k < n ∧ p k = true ∧ ∀ j, j < k → p j = false
set_option maxHeartbeats 2000000 in
theorem fldIdx_calls (A : Option Addr) (c : Nat) (l : List Fld) (q : ByteArray → ByteArray → Bool) (g : Nat) (lb : Array Value) (eg : ∀ args w, (callFunc g args).run Tryd.prog w = .ok (.enter g args) w) (w : World) (hn : l.length ≤ 140737488355328)
    (hC : Kd.C kF w A l.length l)
    (hp : ∀ (W : World) x v, Below w.heap.size w W → Calls Tryd.prog g (#[.agg #[.string x, .string v]] ++ lb) W fun e w' => e = .returned (.bool (q x v)) ∧ Below W.heap.size W w') :
    Calls Tryd.prog 35 #[.slice A l.length c, .func (.func g) #[] lb] w fun e w' => ∃ r, e = .returned (.int .i64 r) ∧ hitAt (fun j => q (rd_T32 l j).f0 (rd_T32 l j).f1) l.length r ∧ Below w.heap.size w w' := by
  have HC := Lib.hid hC
  have HP := Lib.hid hp
  clear hC hp
  generalize hnl : l.length = n at *
  go_enter Tryd.func35, Tryd.ntmps35
  go_wp2
  go_loopg [5, 8] n (fun gg _ s8 wr => ∃ kk : Nat, kk ≤ n ∧ n - kk ≤ gg ∧ s8 = .int .i64 kk ∧ Hid (Below w.heap.size w wr) ∧ Hid (∀ j : Nat, j < kk → q (rd_T32 l j).f0 (rd_T32 l j).f1 = false))
  case atStart => exact ⟨0, Nat.zero_le _, by omega, rfl, Lib.hid (Below.refl _ w), Lib.hid (fun j hj => absurd hj (Nat.not_lt_zero _))⟩
  case round =>
    obtain ⟨kk, hkk, hg, rfl, BW, HA⟩ := hrel
    by_cases hlt : kk < n
    · have hltz : (kk : Int) < (n : Int) := by omega
      obtain ⟨ad, rfl, k0, k1⟩ := at_T32 (Kd.C_below HC.out BW.out) (kk : Int) (by omega) (by omega)
      rw [Int.toNat_natCast] at k0 k1
      have hcall := HP.out wr (rd_T32 l (kk : Int)).f0 (rd_T32 l (kk : Int)).f1 BW.out
      have HQ := Lib.hid (show q (rd_T32 l (kk : Int)).f0 (rd_T32 l (kk : Int)).f1 = q (rd_T32 l (kk : Int)).f0 (rd_T32 l (kk : Int)).f1 from rfl)
      generalize hd : (rd_T32 l (kk : Int)).f0 = x at k0 hcall HQ
      generalize he : (rd_T32 l (kk : Int)).f1 = y at k1 hcall HQ
      have HD := Lib.hid (And.intro hd he)
      clear hd he
      cases hq : q x y with
      | true =>
        rw [hq] at hcall
        go_wp2_with fail
        refine hcall.mono ?_
        rintro e w' ⟨rfl, hb'⟩
        go_wp2
        go_ret
        exact ⟨_, rfl, .inr ⟨kk, rfl, hlt, by show q _ _ = true; rw [HD.out.1, HD.out.2]; exact hq, HA.out⟩, BW.out.trans (hb'.mono BW.out.size)⟩
      | false =>
        rw [hq] at hcall
        go_wp2_with fail
        refine hcall.mono ?_
        rintro e w' ⟨rfl, hb'⟩
        go_wp2
        go_roundg (n - (kk + 1))
        case measure => omega
        case rel =>
          refine ⟨kk + 1, by omega, by omega, by go_num, Lib.hid (BW.out.trans (hb'.mono BW.out.size)), Lib.hid (fun j hj => ?_)⟩
          by_cases e : j = kk
          · subst e; show q _ _ = false; rw [HD.out.1, HD.out.2]; exact hq
          · exact HA.out j (by omega)
    · have hltz : ¬ (kk : Int) < (n : Int) := by omega
      obtain rfl : kk = n := by omega
      go_wp2
      go_ret
      exact ⟨_, rfl, .inl ⟨rfl, HA.out⟩, BW.out⟩
theorem rd_F (l : List Fld) (j : Nat) (hj : j < l.length) : rd_T32 l (j : Int) = l[j]'hj := by simp [rd_T32, List.getD_eq_getElem?_getD, hj]
theorem hitAt_any (l : List Fld) (q : ByteArray → ByteArray → Bool) (r : Int) (h : hitAt (fun j => q (rd_T32 l j).f0 (rd_T32 l j).f1) l.length r) : decide (r ≥ 0) = l.any fun d => q d.f0 d.f1 := by
  rcases h with ⟨rfl, h⟩ | ⟨k, rfl, hk, hq, _⟩
  · symm
    rw [show decide ((-1 : Int) ≥ 0) = false from rfl, List.any_eq_false]
    intro d hd
    obtain ⟨j, hj, rfl⟩ := List.mem_iff_getElem.1 hd
    have h2 : q _ _ = false := h j hj
    rw [rd_F l j hj] at h2
    simp [h2]
  · rw [decide_eq_true (by omega)]
    symm
    rw [List.any_eq_true]
    have h2 : q _ _ = true := hq
    rw [rd_F l k hk] at h2
    exact ⟨_, List.getElem_mem hk, h2⟩
theorem fldHas_calls (A : Option Addr) (c : Nat) (l : List Fld) (q : ByteArray → ByteArray → Bool) (g : Nat) (lb : Array Value) (eg : ∀ args w, (callFunc g args).run Tryd.prog w = .ok (.enter g args) w) (w : World) (hn : l.length ≤ 140737488355328)
    (hC : Kd.C kF w A l.length l)
    (hp : ∀ (W : World) x v, Below w.heap.size w W → Calls Tryd.prog g (#[.agg #[.string x, .string v]] ++ lb) W fun e w' => e = .returned (.bool (q x v)) ∧ Below W.heap.size W w') :
    Calls Tryd.prog 24 #[.slice A l.length c, .func (.func g) #[] lb] w fun e w' => e = .returned (.bool (l.any fun d => q d.f0 d.f1)) ∧ Below w.heap.size w w' := by
  have hc := fldIdx_calls A c l q g lb eg w hn hC hp
  have HA := Lib.hid (hitAt_any l q)
  clear hp hC
  go_enter Tryd.func24, Tryd.ntmps24
  go_wp2_with fail
  refine hc.mono ?_
  rintro e w' ⟨r, rfl, hr, hb⟩
  have HR := Lib.hid hr
  clear hr hc
  go_wp2
  go_ret
  exact ⟨by rw [← HA.out r HR.out]; rfl, hb⟩
end Go.Proofs.YtbcbmmlpgdndpaaDoor.Q
