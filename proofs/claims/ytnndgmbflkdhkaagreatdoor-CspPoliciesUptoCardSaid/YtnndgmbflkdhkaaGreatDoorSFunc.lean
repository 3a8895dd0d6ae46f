/- Functions handed in: csp.named and its closure; slices.IndexFunc and ContainsFunc of directives and of texts. -/
import Derived.Test.YtnndgmbflkdhkaaGreatDoorSB4
import Derived.Test.YtnndgmbflkdhkaaGreatDoorSWords
import Derived.Test.YtnndgmbflkdhkaaGreatDoorSQcsp1
import Derived.WalkKit
import Derived.Deep.LoopGhost
import Derived.Lib.Hide
import Derived.Shelf.SlicesQ.Load
set_option linter.unusedSimpArgs false
set_option linter.unusedVariables false
namespace Go.Proofs.YtnndgmbflkdhkaaGreatDoor.Q
open Go.RowKit Go.Proofs.YtnndgmbflkdhkaaGreatDoorW.PrintWords Go.Proofs.YtnndgmbflkdhkaaGreatDoorW.PrintLast Go.Proofs.YtnndgmbflkdhkaaGreatDoorW.PrintMore
theorem named_calls (s : ByteArray) (w : World) : Calls Tryz.prog 35 #[.string s] w fun e w' => e = .returned (.func (.func 57) #[] #[.pointer (some ⟨w.heap.size, 0, none⟩)]) ∧ w' = w.alloc (.cells #[.string s] 9) := by
  go_enter Tryz.func35, Tryz.ntmps35
  go_wp2
  go_ret
  exact ⟨rfl, rfl⟩
theorem named1_calls (x s : ByteArray) (v : Value) (b : Nat) (w : World) (hc : w.cell? ⟨b, 0, none⟩ = some (.string s)) :
    Calls Tryz.prog 57 #[.agg #[.string x, v], .pointer (some ⟨b, 0, none⟩)] w fun e w' => e = .returned (.bool (x.toList == s.toList)) ∧ Below w.heap.size w w' := by
  have hb : b < w.heap.size := World.block_lt_of_cell? w _ hc
  have hne : b ≠ w.heap.size := by omega
  go_enter Tryz.func57, Tryz.ntmps57
  go_wp2
  go_ret
  exact ⟨rfl, (Below.refl _ w).alloc (Nat.le_refl _) _⟩
def hitAt (p : Nat → Bool) (n : Nat) (r : Int) : Prop := (r = -1 ∧ ∀ j, j < n → p j = false) ∨ ∃ k : Nat, r = k ∧ k < n ∧ p k = true ∧ ∀ j, j < k → p j = false
set_option maxHeartbeats 2000000 in
theorem dirIdx_calls (A : Option Addr) (c : Nat) (l : List S35) (q : ByteArray → Bool) (g : Nat) (lb : Array Value) (eg : ∀ args w, (callFunc g args).run Tryz.prog w = .ok (.enter g args) w) (w : World) (hn : l.length ≤ 140737488355328)
    (hC : Kd.C k35 w A l.length l)
    (hp : ∀ (W : World) x v, Below w.heap.size w W → Calls Tryz.prog g (#[.agg #[.string x, v]] ++ lb) W fun e w' => e = .returned (.bool (q x)) ∧ Below W.heap.size W w') :
    Calls Tryz.prog 48 #[.slice A l.length c, .func (.func g) #[] lb] w fun e w' => ∃ r, e = .returned (.int .i64 r) ∧ hitAt (fun j => q (rd_T35 l j).f0) l.length r ∧ Below w.heap.size w w' := by
  have HC := Lib.hid hC
  have HP := Lib.hid hp
  clear hC hp
  generalize hnl : l.length = n at *
  go_enter Tryz.func48, Tryz.ntmps48
  go_wp2
  go_loopg [5, 8] n (fun gg _ s8 wr => ∃ kk : Nat, kk ≤ n ∧ n - kk ≤ gg ∧ s8 = .int .i64 kk ∧ Hid (Below w.heap.size w wr) ∧ Hid (∀ j : Nat, j < kk → q (rd_T35 l j).f0 = false))
  case atStart => exact ⟨0, Nat.zero_le _, by omega, rfl, Lib.hid (Below.refl _ w), Lib.hid (fun j hj => absurd hj (Nat.not_lt_zero _))⟩
  case round =>
    obtain ⟨kk, hkk, hg, rfl, BW, HA⟩ := hrel
    by_cases hlt : kk < n
    · have hltz : (kk : Int) < (n : Int) := by omega
      obtain ⟨ad, A1, c1, rfl, k0, k1, _, _⟩ := at_T35 (Kd.C_below HC.out BW.out) (kk : Int) (by omega) (by omega)
      rw [Int.toNat_natCast] at k0 k1
      have hcall := HP.out wr (rd_T35 l (kk : Int)).f0 (.slice A1 (rd_T35 l (kk : Int)).f1.length c1) BW.out
      have HQ := Lib.hid (show q (rd_T35 l (kk : Int)).f0 = q (rd_T35 l (kk : Int)).f0 from rfl)
      generalize (.slice A1 (rd_T35 l (kk : Int)).f1.length c1 : Value) = sv at k1 hcall
      generalize hd : (rd_T35 l (kk : Int)).f0 = x at k0 hcall HQ
      have HD := Lib.hid hd
      clear hd
      cases hq : q x with
      | true =>
        rw [hq] at hcall
        go_wp2_with fail
        refine hcall.mono ?_
        rintro e w' ⟨rfl, hb'⟩
        go_wp2
        go_ret
        exact ⟨_, rfl, .inr ⟨kk, rfl, hlt, by show q _ = true; rw [HD.out]; exact hq, HA.out⟩, BW.out.trans (hb'.mono BW.out.size)⟩
      | false =>
        rw [hq] at hcall
        go_wp2_with fail
        refine hcall.mono ?_
        rintro e w' ⟨rfl, hb'⟩
        go_wp2
        go_roundg (n - (kk + 1))
        case measure => omega
        case rel =>
          refine ⟨kk + 1, by omega, by omega, by go_num, Lib.hid (BW.out.trans (hb'.mono BW.out.size)), Lib.hid (fun j hj => ?_)⟩
          by_cases e : j = kk
          · subst e; show q _ = false; rw [HD.out]; exact hq
          · exact HA.out j (by omega)
    · have hltz : ¬ (kk : Int) < (n : Int) := by omega
      obtain rfl : kk = n := by omega
      go_wp2
      go_ret
      exact ⟨_, rfl, .inl ⟨rfl, HA.out⟩, BW.out⟩
theorem hitAt_any (l : List S35) (q : ByteArray → Bool) (r : Int) (h : hitAt (fun j => q (rd_T35 l j).f0) l.length r) : decide (r ≥ 0) = l.any fun d => q d.f0 := by
  have hr : ∀ j : Nat, (hj : j < l.length) → rd_T35 l (j : Int) = l[j]'hj := fun j hj => by simp [rd_T35, List.getD_eq_getElem?_getD, hj]
  rcases h with ⟨rfl, h⟩ | ⟨k, rfl, hk, hq, _⟩
  · symm
    rw [show decide ((-1 : Int) ≥ 0) = false from rfl, List.any_eq_false]
    intro d hd
    obtain ⟨j, hj, rfl⟩ := List.mem_iff_getElem.1 hd
    have h2 : q _ = false := h j hj
    rw [hr j hj] at h2
    simp [h2]
  · rw [decide_eq_true (by omega)]
    symm
    rw [List.any_eq_true]
    have h2 : q _ = true := hq
    rw [hr k hk] at h2
    exact ⟨_, List.getElem_mem hk, h2⟩
theorem dirHas_calls (A : Option Addr) (c : Nat) (l : List S35) (q : ByteArray → Bool) (g : Nat) (lb : Array Value) (eg : ∀ args w, (callFunc g args).run Tryz.prog w = .ok (.enter g args) w) (w : World) (hn : l.length ≤ 140737488355328)
    (hC : Kd.C k35 w A l.length l)
    (hp : ∀ (W : World) x v, Below w.heap.size w W → Calls Tryz.prog g (#[.agg #[.string x, v]] ++ lb) W fun e w' => e = .returned (.bool (q x)) ∧ Below W.heap.size W w') :
    Calls Tryz.prog 34 #[.slice A l.length c, .func (.func g) #[] lb] w fun e w' => e = .returned (.bool (l.any fun d => q d.f0)) ∧ Below w.heap.size w w' := by
  have hc := dirIdx_calls A c l q g lb eg w hn hC hp
  have HA := Lib.hid (hitAt_any l q)
  clear hp hC
  go_enter Tryz.func34, Tryz.ntmps34
  go_wp2_with fail
  refine hc.mono ?_
  rintro e w' ⟨r, rfl, hr, hb⟩
  have HR := Lib.hid hr
  clear hr hc
  go_wp2
  go_ret
  exact ⟨by rw [← HA.out r HR.out]; rfl, hb⟩
theorem bad1_calls (s : ByteArray) (b : Bool) (w : World) (h : csp_word.f s = some b) : Calls Tryz.prog 39 #[.string s] w fun e w' => e = .returned (.bool (!b)) ∧ Below w.heap.size w w' := by
  have hc := fun W => csp_word.calls s b W h
  go_enter Tryz.func39, Tryz.ntmps39
  go_wp2_with fail
  refine (hc _).mono ?_
  rintro e w' ⟨rfl, hb⟩
  go_wp2
  go_ret
  exact ⟨rfl, hb⟩
set_option maxHeartbeats 2000000 in
theorem strIdx_calls (A : Option Addr) (c : Nat) (l : List ByteArray) (q : ByteArray → Bool) (g : Nat) (lb : Array Value) (eg : ∀ args w, (callFunc g args).run Tryz.prog w = .ok (.enter g args) w) (w : World) (hn : l.length ≤ 140737488355328)
    (hC : Kd.C Kd.string w A l.length l)
    (hp : ∀ (W : World) x, x ∈ l → Below w.heap.size w W → Calls Tryz.prog g (#[.string x] ++ lb) W fun e w' => e = .returned (.bool (q x)) ∧ Below W.heap.size W w') :
    Calls Tryz.prog 62 #[.slice A l.length c, .func (.func g) #[] lb] w fun e w' => ∃ r, e = .returned (.int .i64 r) ∧ hitAt (fun j => q (l.getD j ⟨#[]⟩)) l.length r ∧ Below w.heap.size w w' := by
  have HC := Lib.hid hC
  have HP := Lib.hid hp
  clear hC hp
  generalize hnl : l.length = n at *
  go_enter Tryz.func62, Tryz.ntmps62
  go_wp2
  go_loopg [5, 8] n (fun gg _ s8 wr => ∃ kk : Nat, kk ≤ n ∧ n - kk ≤ gg ∧ s8 = .int .i64 kk ∧ Hid (Below w.heap.size w wr) ∧ Hid (∀ j : Nat, j < kk → q (l.getD j ⟨#[]⟩) = false))
  case atStart => exact ⟨0, Nat.zero_le _, by omega, rfl, Lib.hid (Below.refl _ w), Lib.hid (fun j hj => absurd hj (Nat.not_lt_zero _))⟩
  case round =>
    obtain ⟨kk, hkk, hg, rfl, BW, HA⟩ := hrel
    by_cases hlt : kk < n
    · have hltz : (kk : Int) < (n : Int) := by omega
      obtain ⟨ad, cs, rfl, hcl, hK, hcc⟩ := Kd.C_get (Kd.C_below HC.out BW.out) (⟨#[]⟩ : ByteArray) (kk : Int) (by omega) (by omega)
      rw [Int.toNat_natCast] at hK hcc
      have hcs : cs = [.string (l.getD kk ⟨#[]⟩)] := hK
      subst hcs
      have k0 : wr.cell? (ad.add kk) = some (.string (l.getD kk ⟨#[]⟩)) := by have := hcc 0 _ rfl; rwa [show kk * Kd.string.sz + 0 = kk from by show kk * 1 + 0 = kk; omega] at this
      have hmem : l.getD kk ⟨#[]⟩ ∈ l := by rw [List.getD_eq_getElem?_getD, List.getElem?_eq_getElem (by omega)]; exact List.getElem_mem _
      have hcall := HP.out wr (l.getD kk ⟨#[]⟩) hmem BW.out
      clear hK hcc hcl hmem
      generalize hd : l.getD kk ⟨#[]⟩ = x at k0 hcall
      have HD := Lib.hid hd
      clear hd
      cases hq : q x with
      | true =>
        rw [hq] at hcall
        go_wp2_with fail
        refine hcall.mono ?_
        rintro e w' ⟨rfl, hb'⟩
        go_wp2
        go_ret
        exact ⟨_, rfl, .inr ⟨kk, rfl, hlt, by show q _ = true; rw [HD.out]; exact hq, HA.out⟩, BW.out.trans (hb'.mono BW.out.size)⟩
      | false =>
        rw [hq] at hcall
        go_wp2_with fail
        refine hcall.mono ?_
        rintro e w' ⟨rfl, hb'⟩
        go_wp2
        go_roundg (n - (kk + 1))
        case measure => omega
        case rel =>
          refine ⟨kk + 1, by omega, by omega, by go_num, Lib.hid (BW.out.trans (hb'.mono BW.out.size)), Lib.hid (fun j hj => ?_)⟩
          by_cases e : j = kk
          · subst e; show q _ = false; rw [HD.out]; exact hq
          · exact HA.out j (by omega)
    · have hltz : ¬ (kk : Int) < (n : Int) := by omega
      obtain rfl : kk = n := by omega
      go_wp2
      go_ret
      exact ⟨_, rfl, .inl ⟨rfl, HA.out⟩, BW.out⟩
theorem hitAt_anyS (l : List ByteArray) (q : ByteArray → Bool) (r : Int) (h : hitAt (fun j => q (l.getD j ⟨#[]⟩)) l.length r) : decide (r ≥ 0) = l.any q := by
  have hr : ∀ j : Nat, (hj : j < l.length) → l.getD j ⟨#[]⟩ = l[j]'hj := fun j hj => by simp [List.getD_eq_getElem?_getD, hj]
  rcases h with ⟨rfl, h⟩ | ⟨k, rfl, hk, hq, _⟩
  · symm
    rw [show decide ((-1 : Int) ≥ 0) = false from rfl, List.any_eq_false]
    intro d hd
    obtain ⟨j, hj, rfl⟩ := List.mem_iff_getElem.1 hd
    have h2 : q _ = false := h j hj
    rw [hr j hj] at h2
    simp [h2]
  · rw [decide_eq_true (by omega)]
    symm
    rw [List.any_eq_true]
    have h2 : q _ = true := hq
    rw [hr k hk] at h2
    exact ⟨_, List.getElem_mem hk, h2⟩
theorem strHas_calls (A : Option Addr) (c : Nat) (l : List ByteArray) (q : ByteArray → Bool) (g : Nat) (lb : Array Value) (eg : ∀ args w, (callFunc g args).run Tryz.prog w = .ok (.enter g args) w) (w : World) (hn : l.length ≤ 140737488355328)
    (hC : Kd.C Kd.string w A l.length l)
    (hp : ∀ (W : World) x, x ∈ l → Below w.heap.size w W → Calls Tryz.prog g (#[.string x] ++ lb) W fun e w' => e = .returned (.bool (q x)) ∧ Below W.heap.size W w') :
    Calls Tryz.prog 38 #[.slice A l.length c, .func (.func g) #[] lb] w fun e w' => e = .returned (.bool (l.any q)) ∧ Below w.heap.size w w' := by
  have hc := strIdx_calls A c l q g lb eg w hn hC hp
  have HA := Lib.hid (hitAt_anyS l q)
  clear hp hC
  go_enter Tryz.func38, Tryz.ntmps38
  go_wp2_with fail
  refine hc.mono ?_
  rintro e w' ⟨r, rfl, hr, hb⟩
  have HR := Lib.hid hr
  clear hr hc
  go_wp2
  go_ret
  exact ⟨by rw [← HA.out r HR.out]; rfl, hb⟩
end Go.Proofs.YtnndgmbflkdhkaaGreatDoor.Q
