/- tables.Check's first closure: a span's own part (ContainsFunc of runes by hand). -/
import Derived.Test.YtmjnipifpeehgaaDoorSNRtSpan
set_option linter.unusedSimpArgs false
set_option linter.unusedVariables false
namespace Go.Proofs.YtmjnipifpeehgaaDoor.Q
open Go.RowKit Go.Proofs.YtmjnipifpeehgaaDoorW.PrintWords Go.Proofs.YtmjnipifpeehgaaDoorW.PrintLast Go.Proofs.YtmjnipifpeehgaaDoorW.PrintMore
theorem runeAt {w : World} {A : Option Addr} {n : Nat} {xs : List Int} (h : Kd.C (Kd.int .i32) w A n xs) (i : Nat) (hi : i < n) : ∃ ad, A = some ad ∧ w.cell? (ad.add i) = some (.int .i32 (xs.getD i 0)) := by
  obtain ⟨ad', cs', hA', hcl', hK', hcc'⟩ := Kd.C_get h (0 : Int) (i : Int) (by omega) (by omega)
  rw [Int.toNat_natCast] at hK' hcc'
  have hcs : cs' = [.int .i32 (xs.getD i 0)] := hK'
  subst hcs
  have := hcc' 0 _ rfl
  rw [show i * (Kd.int .i32).sz + 0 = i from by show i * 1 + 0 = i; omega] at this
  exact ⟨ad', hA', this⟩
set_option maxHeartbeats 2000000 in
theorem runeIdx_calls (A : Option Addr) (c : Nat) (l : List Int) (q : Int → Bool) (g : Nat) (lb : Array Value) (eg : ∀ args w, (callFunc g args).run Tryd.prog w = .ok (.enter g args) w) (w : World) (hn : l.length ≤ 9223372036854775807)
    (hC : Kd.C (Kd.int .i32) w A l.length l)
    (hp : ∀ (W : World) x, Below w.heap.size w W → Calls Tryd.prog g (#[.int .i32 x] ++ lb) W fun e w' => e = .returned (.bool (q x)) ∧ Below W.heap.size W w') :
    Calls Tryd.prog 72 #[.slice A l.length c, .func (.func g) #[] lb] w fun e w' => ∃ r, e = .returned (.int .i64 r) ∧ hitAt (fun j => q (l.getD j 0)) l.length r ∧ Below w.heap.size w w' := by
  have HC := Lib.hid hC
  have HP := Lib.hid hp
  clear hC hp
  generalize hnl : l.length = n at *
  go_enter Tryd.func72, Tryd.ntmps72
  go_wp2
  go_loopg [5, 8] n (fun gg _ s8 wr => ∃ kk : Nat, kk ≤ n ∧ n - kk ≤ gg ∧ s8 = .int .i64 kk ∧ Hid (Below w.heap.size w wr) ∧ Hid (∀ j : Nat, j < kk → q (l.getD j 0) = false))
  case atStart => exact ⟨0, Nat.zero_le _, by omega, rfl, Lib.hid (Below.refl _ w), Lib.hid (fun j hj => absurd hj (Nat.not_lt_zero _))⟩
  case round =>
    obtain ⟨kk, hkk, hg, rfl, BW, HA⟩ := hrel
    by_cases hlt : kk < n
    · have hltz : (kk : Int) < (n : Int) := by omega
      obtain ⟨ad, rfl, k0⟩ := runeAt (Kd.C_below HC.out BW.out) kk hlt
      have hcall := HP.out wr (l.getD kk 0) BW.out
      generalize hd0 : l.getD kk 0 = y0 at k0 hcall
      have HD := Lib.hid hd0
      clear hd0
      cases hq : q y0 with
      | true =>
        rw [hq] at hcall
        go_wp2_with fail
        refine hcall.mono ?_
        rintro e w' ⟨rfl, hb'⟩
        go_wp2
        go_ret
        exact ⟨_, rfl, .inr ⟨kk, rfl, hlt, by show q _ = true; rw [HD.out]; exact hq, HA.out⟩, BW.out.trans (hb'.mono BW.out.size)⟩
      | false =>
        rw [hq] at hcall
        go_wp2_with fail
        refine hcall.mono ?_
        rintro e w' ⟨rfl, hb'⟩
        go_wp2
        go_roundg (n - (kk + 1))
        case measure => omega
        case rel =>
          refine ⟨kk + 1, by omega, by omega, by go_num, Lib.hid (BW.out.trans (hb'.mono BW.out.size)), Lib.hid (fun j hj => ?_)⟩
          by_cases e : j = kk
          · subst e; show q _ = false; rw [HD.out]; exact hq
          · exact HA.out j (by omega)
    · have hltz : ¬ (kk : Int) < (n : Int) := by omega
      obtain rfl : kk = n := by omega
      go_wp2
      go_ret
      exact ⟨_, rfl, .inl ⟨rfl, HA.out⟩, BW.out⟩
theorem hit_any {q : Int → Bool} {l : List Int} {r : Int} (h : hitAt (fun j => q (l.getD j 0)) l.length r) : decide (0 ≤ r) = l.any q := by
  rcases h with ⟨rfl, h⟩ | ⟨k, rfl, hk, hq, _⟩
  · have : l.any q = false := by
      rw [List.any_eq_false]
      intro x hx
      obtain ⟨j, hj, rfl⟩ := List.mem_iff_getElem.1 hx
      have : q (l.getD j 0) = false := h j hj
      rw [show l.getD j 0 = l[j] from by simp [List.getD_eq_getElem?_getD, hj]] at this
      rw [this]; decide
    rw [this]; rfl
  · have : l.any q = true := List.any_eq_true.2 ⟨l[k], List.getElem_mem hk, by rw [← show l.getD k 0 = l[k] from by simp [List.getD_eq_getElem?_getD, hk]]; exact hq⟩
    rw [this]
    exact decide_eq_true (by omega)
set_option maxHeartbeats 2000000 in
theorem runeHas_calls (A : Option Addr) (c : Nat) (l : List Int) (q : Int → Bool) (g : Nat) (lb : Array Value) (eg : ∀ args w, (callFunc g args).run Tryd.prog w = .ok (.enter g args) w) (w : World) (hn : l.length ≤ 9223372036854775807)
    (hC : Kd.C (Kd.int .i32) w A l.length l)
    (hp : ∀ (W : World) x, Below w.heap.size w W → Calls Tryd.prog g (#[.int .i32 x] ++ lb) W fun e w' => e = .returned (.bool (q x)) ∧ Below W.heap.size W w') :
    Calls Tryd.prog 43 #[.slice A l.length c, .func (.func g) #[] lb] w fun e w' => e = .returned (.bool (l.any q)) ∧ Below w.heap.size w w' := by
  have hidx := runeIdx_calls A c l q g lb eg w hn hC hp
  clear hn hC hp eg
  obtain ⟨n, hnl⟩ : ∃ n, n = l.length := ⟨_, rfl⟩
  obtain ⟨R, hR⟩ : ∃ R, R = l.any q := ⟨_, rfl⟩
  rw [← hR]
  have hh : ∀ r, hitAt (fun j => q (l.getD j 0)) n r → decide (0 ≤ r) = R := fun r h => by rw [hR]; rw [hnl] at h; exact hit_any h
  rw [← hnl] at hidx ⊢
  clear hnl hR
  go_enter Tryd.func43, Tryd.ntmps43
  go_wp2_with fail
  refine hidx.mono ?_
  rintro e w' ⟨r, rfl, hr, hb⟩
  obtain rfl := hh r hr
  clear hh hr hidx
  go_wp2
  go_ret
  exact ⟨rfl, hb⟩
/-- a span's own part -/
def spanFine (x : S71) : Bool := decide (x.f2 < 4) && (decide (x.f3.length ≤ 8) && (!x.f3.any (fun r => !mayF r) && (x.f3.length == 0 || x.f2 == 2)))
set_option maxHeartbeats 4000000 in
theorem fine1_calls (x : S71) (A : Option Addr) (c : Nat) (w : World) (hC : Kd.C (Kd.int .i32) w A x.f3.length x.f3) (hT : UTabs w) :
    Calls Tryd.prog 42 (#[.agg #[.int .i32 x.f0, .int .i32 x.f1, .int .u8 x.f2, .slice A x.f3.length c]] ++ #[]) w fun e w' => e = .returned (.bool (spanFine x)) ∧ Below w.heap.size w w' := by
  show Calls Tryd.prog 42 #[.agg #[.int .i32 x.f0, .int .i32 x.f1, .int .u8 x.f2, .slice A x.f3.length c]] w _
  have hB1 : Below w.heap.size w (w.alloc (.cells #[.int .i32 x.f0, .int .i32 x.f1, .int .u8 x.f2, .slice A x.f3.length c] 71)) := (Below.refl _ w).alloc (Nat.le_refl _) _
  have hhas := runeHas_calls A c x.f3 (fun r => !mayF r) 44 #[] (enters_of Tryd.func44 (by kernel_rfl) rfl) _ (Kd.C_max hC) (Kd.C_below hC hB1) (fun W r hW => by
    show Calls Tryd.prog 44 #[.int .i32 r] W _
    exact tables_Check_1_1.calls r _ W (UTabs.below (UTabs.below hT hB1) hW) (by unfold tables_Check_1_1.f; rw [mayF_eq]; rfl))
  obtain ⟨R, hR⟩ : ∃ R, R = x.f3.any (fun r => !mayF r) := ⟨_, rfl⟩
  obtain ⟨S, hS⟩ : ∃ S, S = spanFine x := ⟨_, rfl⟩
  rw [← hR] at hhas
  rw [← hS]
  unfold spanFine at hS
  rw [← hR] at hS
  obtain ⟨f0, f1, f2, f3⟩ := x
  have HB1 := Lib.hid hB1
  have HS := Lib.hid hS
  have hz : (f3.length : Int) ≤ 8 ↔ f3.length ≤ 8 := by omega
  have hbx : (w.alloc (.cells #[.int .i32 f0, .int .i32 f1, .int .u8 f2, .slice A f3.length c] 71)).heap[w.heap.size]? = some (.cells #[.int .i32 f0, .int .i32 f1, .int .u8 f2, .slice A f3.length c] 71 (0, 0)) := heapNewS _ _
  have HBX := Lib.hid hbx
  clear hR hC hT hB1 hS hbx hz
  simp only at hhas HB1 HS HBX ⊢
  generalize f3.length = n at *
  go_enter Tryd.func42, Tryd.ntmps42
  go_wp2_with fail
  refine hhas.mono ?_
  rintro e w2 ⟨rfl, hb2⟩
  have hk := (hb2.block w.heap.size (by simp)).trans HBX.out
  have z2 : w2.cell? ⟨w.heap.size, 2, none⟩ = some (.int .u8 f2) := (Lib.cell_of_heap hk 2).trans rfl
  have z3 : w2.cell? ⟨w.heap.size, 3, none⟩ = some (.slice A n c) := (Lib.cell_of_heap hk 3).trans rfl
  have HB2 := Lib.hid (HB1.out.trans (hb2.mono HB1.out.size))
  clear hb2 hk hhas HB1 HBX
  by_cases c1 : f2 < 4
  · by_cases c2 : n ≤ 8
    · have c2z : (n : Int) ≤ 8 := by omega
      cases R with
      | true =>
        go_wp2
        go_ret
        exact ⟨by rw [HS.out]; simp [c1, c2], HB2.out⟩
      | false =>
        by_cases c3 : n = 0
        · have c3z : ((n : Int) == 0) = true := by rw [c3]; rfl
          go_wp2
          go_ret
          exact ⟨by rw [HS.out]; simp [c1, c3], HB2.out⟩
        · have c3z : ((n : Int) == 0) = false := beq_eq_false_iff_ne.2 (by omega)
          by_cases c4 : f2 = 2
          · have c4z : (f2 == 2) = true := by rw [c4]; rfl
            go_wp2
            go_ret
            exact ⟨by rw [HS.out]; simp [c2, c4], HB2.out⟩
          · have c4z : (f2 == 2) = false := beq_eq_false_iff_ne.2 c4
            go_wp2
            go_ret
            exact ⟨by rw [HS.out]; simp [c3, c4], HB2.out⟩
    · have c2z : ¬ (n : Int) ≤ 8 := by omega
      go_wp2
      go_ret
      exact ⟨by rw [HS.out]; simp [c2], HB2.out⟩
  · go_wp2
    go_ret
    exact ⟨by rw [HS.out, show decide (f2 < 4) = false from decide_eq_false (by omega)]; rfl, HB2.out⟩
end Go.Proofs.YtmjnipifpeehgaaDoor.Q
