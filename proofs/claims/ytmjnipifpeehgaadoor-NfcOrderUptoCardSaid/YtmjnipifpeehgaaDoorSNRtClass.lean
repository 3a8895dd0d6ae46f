/- tables.right[bastion/api.Class]: whether a list's entries rise, and each is as it must be. Written by nrightgen.py. -/
import Derived.Test.YtmjnipifpeehgaaDoorSNSpClass
import Derived.Test.YtmjnipifpeehgaaDoorSB5
set_option linter.unusedSimpArgs false
set_option linter.unusedVariables false
namespace Go.Proofs.YtmjnipifpeehgaaDoor.Q
open Go.RowKit Go.Proofs.YtmjnipifpeehgaaDoorW.PrintWords Go.Proofs.YtmjnipifpeehgaaDoorW.PrintLast Go.Proofs.YtmjnipifpeehgaaDoorW.PrintMore
set_option maxHeartbeats 8000000 in
theorem rightClass_calls (A : Option Addr) (c : Nat) (l : List S43) (q : S43 → Bool) (g : Nat) (lb : Array Value) (eg : ∀ args w, (callFunc g args).run Tryd.prog w = .ok (.enter g args) w) (I : List S43 → World → Prop) (row : Option Nat) (w : World) (hn : l.length ≤ 1048576) (hC : Kd.C k43 w A l.length l)
    (hT : ∀ W, w.grownBy W row → UTabs W) (hrow : ∀ B, row = some B → B < w.heap.size) (hI0 : I [] w) (hIb : ∀ d W W', I d W → Below W.heap.size W W' → I d W')
    (hfine : ∀ (W : World) (kk : Nat) (x : S43), l[kk]? = some x → w.grownBy W row → I (l.take kk) W → Calls Tryd.prog g (#[.agg #[.int .i32 x.f0, .int .u8 x.f1]] ++ lb) W fun e w' => e = .returned (.bool (q x)) ∧ I (l.take (kk + 1)) w' ∧ W.grownBy w' row) :
    Calls Tryd.prog 46 #[.slice A l.length c, .func (.func 26) #[] #[], .func (.func g) #[] lb] w fun e w' => e = .returned (.bool (rightG (fun x => x.f0) (fun x => x.f0) q (-1) l)) ∧ (rightG (fun x => x.f0) (fun x => x.f0) q (-1) l = true → I l w') ∧ (∃ d, I d w') ∧ w.grownBy w' row := by
  have hsp := spanClass_calls A c l w hn hC
  have HF := Lib.hid hfine
  have HT := Lib.hid hT
  have HIB := Lib.hid hIb
  have HW := Lib.hid hrow
  obtain ⟨R, hRe⟩ : ∃ R, R = rightG (fun x => x.f0) (fun x => x.f0) q (-1) l := ⟨_, rfl⟩
  rw [← hRe]
  have HR := Lib.hid hRe
  have HI0 := Lib.hid hI0
  clear hfine hT hIb hC hrow hRe hI0
  generalize hnl : l.length = n at *
  go_enter Tryd.func46, Tryd.ntmps46
  go_wp2_with fail
  refine hsp.mono ?_
  rintro e w1 ⟨rfl, hS, hb⟩
  have HS0 := Lib.hid hS
  have HG0 := Lib.hid (show w.grownBy w1 row ∧ w.heap.size < w1.heap.size from ⟨Lib.grownBy_below (World.grownBy.refl w row) hb, by obtain ⟨cur, h1, _⟩ := hS; exact (Array.getElem?_eq_some_iff.1 h1).1⟩)
  have HI1 := Lib.hid (HIB.out _ _ _ HI0.out hb)
  clear hsp hS hb HI0
  go_wp2
  go_loopg [7, 14] n (fun gg s7 s14 wr => ∃ (kk : Nat) (last : Int), s7 = .int .i32 last ∧ s14 = .int .i64 kk ∧ Hid ((kk ≤ n ∧ n - kk ≤ gg) ∧ R = rightG (fun x => x.f0) (fun x => x.f0) q last (l.drop kk)) ∧ Hid (SpClass w.heap.size wr l n) ∧ Hid (w.grownBy wr row ∧ w.heap.size < wr.heap.size) ∧ Hid (I (l.take kk) wr))
  case atStart => exact ⟨0, -1, rfl, rfl, Lib.hid ⟨⟨by omega, by omega⟩, HR.out⟩, HS0, HG0, HI1⟩
  case round =>
    (obtain ⟨kk, last, rfl, rfl, HJ, HS, HG, HI⟩ := hrel); (have hkn := HJ.out.1)
    by_cases hlt : kk < n
    · have hltz : (kk : Int) < (n : Int) := by omega
      (obtain ⟨x, hx⟩ : ∃ x, l[kk]? = some x := ⟨_, List.getElem?_eq_getElem (by omega)⟩); (obtain ⟨cur, h1, _, _, h4⟩ := HS.out); (obtain ⟨k0, k1, k2, k3⟩ := h4 kk x hx); (replace k0 := (Lib.cell_of_heap h1 (kk * 4)).trans k0); (replace k1 := (Lib.cell_of_heap h1 (kk * 4 + 1)).trans k1); (replace k2 := (Lib.cell_of_heap h1 (kk * 4 + 2)).trans k2); (replace k3 := (Lib.cell_of_heap h1 (kk * 4 + 3)).trans k3)
      have hfine := fun W hg hi => HF.out W kk x hx hg hi
      (have HX := Lib.hid hx); (obtain ⟨f, hf⟩ : ∃ f, f = x.f0 := ⟨_, rfl⟩); (obtain ⟨t, ht⟩ : ∃ t, t = x.f0 := ⟨_, rfl⟩); (rw [← hf] at k0); (rw [← ht] at k1)
      have hst : R = ((endsOk last f t && q x) && rightG (fun x => x.f0) (fun x => x.f0) q t (l.drop (kk + 1))) := by
        (rw [HJ.out.2, List.drop_eq_getElem_cons (show kk < l.length by omega), (List.getElem?_eq_some_iff.1 hx).2, hf, ht]); (rfl)
      (have HST := Lib.hid hst); (have HFT := Lib.hid (And.intro hf ht))
      have hgA : ∀ o, w.grownBy (wr.alloc o) row := fun o => Lib.grownBy_allocR HG.out.1 o
      (have HBX := Lib.hid (show (wr.alloc (.cells #[.int .i32 f, .int .i32 t, .int .i32 x.f0, .int .u8 x.f1] 114)).heap[wr.heap.size]? = some (.cells #[.int .i32 f, .int .i32 t, .int .i32 x.f0, .int .u8 x.f1] 114 (0, 0)) from heapNewS _ _)); (have HSA := Lib.hid (HS.out.below ((Below.refl wr.heap.size wr).alloc (Nat.le_refl _) (.cells #[.int .i32 f, .int .i32 t, .int .i32 x.f0, .int .u8 x.f1] 114)))); (have HIA := Lib.hid (HIB.out _ _ _ HI.out ((Below.refl wr.heap.size wr).alloc (Nat.le_refl _) (.cells #[.int .i32 f, .int .i32 t, .int .i32 x.f0, .int .u8 x.f1] 114)))); (have hqx : ∃ b, b = q x := ⟨_, rfl⟩); (obtain ⟨qx, hqx⟩ := hqx); (rw [← hqx] at hfine); (have HQ := Lib.hid hqx); (clear h1 h4 hx hst hf ht hqx HI HS)
      by_cases c1 : t < f
      · clear hfine
        (go_wp2); (go_ret); (have hR : R = false := by rw [HST.out]; simp [endsOk, c1])
        exact ⟨by rw [hR] <;> rfl, fun h => absurd (hR.symm.trans h) (by decide), ⟨_, HIA.out⟩, hgA _⟩
      · have e1 : f ≤ t := by omega
        by_cases c2 : f ≤ last
        · clear hfine
          (go_wp2); (go_ret); (have hR : R = false := by rw [HST.out]; simp [endsOk, e1, c2])
          exact ⟨by rw [hR] <;> rfl, fun h => absurd (hR.symm.trans h) (by decide), ⟨_, HIA.out⟩, hgA _⟩
        · have e2 : last < f := by omega
          have hm1 := may_calls f (wr.alloc (.cells #[.int .i32 f, .int .i32 t, .int .i32 x.f0, .int .u8 x.f1] 114)) (HT.out _ (hgA _))
          cases hf1 : mayF f with
          | false =>
            (rw [hf1] at hm1); (go_wp2_with fail); (refine hm1.mono ?_); (rintro e w3 ⟨rfl, hb3⟩); (have HG3 := Lib.hid (Lib.grownBy_below (hgA _) hb3)); (have HI3 := Lib.hid (HIB.out _ _ _ HIA.out hb3)); (have z0 : w3.cell? ⟨wr.heap.size, 0, none⟩ = some (.int .i32 f) := (Lib.cell_of_heap ((hb3.block _ (by simp)).trans HBX.out) 0).trans rfl); (have z1 : w3.cell? ⟨wr.heap.size, 1, none⟩ = some (.int .i32 t) := (Lib.cell_of_heap ((hb3.block _ (by simp)).trans HBX.out) 1).trans rfl); (have z2 : w3.cell? ⟨wr.heap.size, 2, none⟩ = some (.int .i32 x.f0) := (Lib.cell_of_heap ((hb3.block _ (by simp)).trans HBX.out) 2).trans rfl); (have z3 : w3.cell? ⟨wr.heap.size, 3, none⟩ = some (.int .u8 x.f1) := (Lib.cell_of_heap ((hb3.block _ (by simp)).trans HBX.out) 3).trans rfl); (clear hb3 hm1 hfine k0 k1 k2 k3); (go_wp2); (go_ret); (have hR : R = false := by rw [HST.out]; simp [endsOk, hf1])
            exact ⟨by rw [hR] <;> rfl, fun h => absurd (hR.symm.trans h) (by decide), ⟨_, HI3.out⟩, HG3.out⟩
          | true =>
            (rw [hf1] at hm1); (go_wp2_with fail); (refine hm1.mono ?_); (rintro e w3 ⟨rfl, hb3⟩); (have HG3 := Lib.hid (Lib.grownBy_below (hgA _) hb3)); (have HB3 := Lib.hid ((hb3.block _ (by simp)).trans HBX.out)); (have HL3 := Lib.hid (show wr.heap.size < w3.heap.size from (Array.getElem?_eq_some_iff.1 HB3.out).1)); (have HS3 := Lib.hid (HSA.out.below hb3)); (have HI3 := Lib.hid (HIB.out _ _ _ HIA.out hb3)); (have z0 : w3.cell? ⟨wr.heap.size, 0, none⟩ = some (.int .i32 f) := (Lib.cell_of_heap HB3.out 0).trans rfl); (have z1 : w3.cell? ⟨wr.heap.size, 1, none⟩ = some (.int .i32 t) := (Lib.cell_of_heap HB3.out 1).trans rfl); (have z2 : w3.cell? ⟨wr.heap.size, 2, none⟩ = some (.int .i32 x.f0) := (Lib.cell_of_heap HB3.out 2).trans rfl); (have z3 : w3.cell? ⟨wr.heap.size, 3, none⟩ = some (.int .u8 x.f1) := (Lib.cell_of_heap HB3.out 3).trans rfl); (have hm2 := may_calls t w3 (HT.out _ HG3.out)); (clear hb3 hm1 k0 k1 k2 k3 HBX HSA HIA)
            cases hf2 : mayF t with
            | false =>
              (rw [hf2] at hm2); (go_wp2_with fail); (refine hm2.mono ?_); (rintro e w4 ⟨rfl, hb4⟩); (have HG4 := Lib.hid (Lib.grownBy_below HG3.out hb4)); (have HI4 := Lib.hid (HIB.out _ _ _ HI3.out hb4)); (clear hb4 hm2 hfine); (go_wp2); (go_ret); (have hR : R = false := by rw [HST.out]; simp [endsOk, hf2])
              exact ⟨by rw [hR] <;> rfl, fun h => absurd (hR.symm.trans h) (by decide), ⟨_, HI4.out⟩, HG4.out⟩
            | true =>
              (rw [hf2] at hm2); (go_wp2_with fail); (refine hm2.mono ?_); (rintro e w4 ⟨rfl, hb4⟩); (have HG4 := Lib.hid (Lib.grownBy_below HG3.out hb4)); (have HB4 := Lib.hid ((hb4.block _ HL3.out).trans HB3.out)); (have HL4 := Lib.hid (show wr.heap.size < w4.heap.size from (Array.getElem?_eq_some_iff.1 HB4.out).1)); (have HS4 := Lib.hid (HS3.out.below hb4)); (have HI4 := Lib.hid (HIB.out _ _ _ HI3.out hb4)); (clear hb4 hm2 z0 z1 z2 z3); (have z0 : w4.cell? ⟨wr.heap.size, 0, none⟩ = some (.int .i32 f) := (Lib.cell_of_heap HB4.out 0).trans rfl); (have z1 : w4.cell? ⟨wr.heap.size, 1, none⟩ = some (.int .i32 t) := (Lib.cell_of_heap HB4.out 1).trans rfl); (have z2 : w4.cell? ⟨wr.heap.size, 2, none⟩ = some (.int .i32 x.f0) := (Lib.cell_of_heap HB4.out 2).trans rfl); (have z3 : w4.cell? ⟨wr.heap.size, 3, none⟩ = some (.int .u8 x.f1) := (Lib.cell_of_heap HB4.out 3).trans rfl); (have hfn := hfine w4 HG4.out HI4.out); (clear hfine HB3 HL3 HS3 HI3)
              by_cases c5 : f < 55296
              · by_cases c6 : 57343 < t
                · clear hfn
                  (go_wp2); (go_ret); (have hR : R = false := by rw [HST.out]; simp [endsOk, c5, c6])
                  exact ⟨by rw [hR] <;> rfl, fun h => absurd (hR.symm.trans h) (by decide), ⟨_, HI4.out⟩, HG4.out⟩
                · have e6 : t ≤ 57343 := by omega
                  (go_wp2_with fail); (refine hfn.mono ?_); (rintro e w5 ⟨rfl, hi5, hg5⟩); (have HG5 := Lib.hid (Lib.grownBy_trans HG4.out hg5)); (have HI5 := Lib.hid hi5)
                  have HB5 := Lib.hid ((hg5.block _ HL4.out (fun e => Nat.lt_irrefl _ (Nat.lt_trans HG.out.2 (HW.out _ e.symm)))).trans HB4.out)
                  have HS5 := Lib.hid (show SpClass w.heap.size w5 l n from by
                    obtain ⟨cur, s1, s2⟩ := HS4.out
                    exact ⟨cur, (hg5.block _ (Array.getElem?_eq_some_iff.1 s1).1 (fun e => Nat.lt_irrefl _ (HW.out _ e.symm))).trans s1, s2⟩)
                  (have HL5 := Lib.hid (Nat.lt_of_lt_of_le HL4.out hg5.size)); (clear hfn hi5 hg5 z0 z1 z2 z3 HB4 HS4 HI4); (have z0 : w5.cell? ⟨wr.heap.size, 0, none⟩ = some (.int .i32 f) := (Lib.cell_of_heap HB5.out 0).trans rfl); (have z1 : w5.cell? ⟨wr.heap.size, 1, none⟩ = some (.int .i32 t) := (Lib.cell_of_heap HB5.out 1).trans rfl); (have z2 : w5.cell? ⟨wr.heap.size, 2, none⟩ = some (.int .i32 x.f0) := (Lib.cell_of_heap HB5.out 2).trans rfl); (have z3 : w5.cell? ⟨wr.heap.size, 3, none⟩ = some (.int .u8 x.f1) := (Lib.cell_of_heap HB5.out 3).trans rfl)
                  cases hq : qx with
                  | false =>
                    (have HQ2 := Lib.hid hq); (subst hq); (clear HB5 HS5); (go_wp2); (go_ret); (have hR : R = false := by rw [HST.out, ← HQ.out]; simp)
                    exact ⟨by rw [hR] <;> rfl, fun h => absurd (hR.symm.trans h) (by decide), ⟨_, HI5.out⟩, HG5.out⟩
                  | true =>
                    (subst hq); (go_wp2); (go_roundg (n - (kk + 1)))
                    case measure => have := HJ.out.1; omega
                    case rel =>
                      (have hj := HJ.out.1); (refine ⟨kk + 1, t, rfl, by go_num, Lib.hid ⟨⟨by omega, by omega⟩, ?_⟩, HS5, Lib.hid ⟨HG5.out, Nat.lt_trans HG.out.2 HL5.out⟩, HI5⟩); (rw [HST.out, ← HQ.out]); (simp [endsOk, e1, e2, hf1, hf2, e6])
              · have e5 : 55296 ≤ f := by omega
                (go_wp2_with fail); (refine hfn.mono ?_); (rintro e w5 ⟨rfl, hi5, hg5⟩); (have HG5 := Lib.hid (Lib.grownBy_trans HG4.out hg5)); (have HI5 := Lib.hid hi5)
                have HB5 := Lib.hid ((hg5.block _ HL4.out (fun e => Nat.lt_irrefl _ (Nat.lt_trans HG.out.2 (HW.out _ e.symm)))).trans HB4.out)
                have HS5 := Lib.hid (show SpClass w.heap.size w5 l n from by
                  obtain ⟨cur, s1, s2⟩ := HS4.out
                  exact ⟨cur, (hg5.block _ (Array.getElem?_eq_some_iff.1 s1).1 (fun e => Nat.lt_irrefl _ (HW.out _ e.symm))).trans s1, s2⟩)
                (have HL5 := Lib.hid (Nat.lt_of_lt_of_le HL4.out hg5.size)); (clear hfn hi5 hg5 z0 z1 z2 z3 HB4 HS4 HI4); (have z0 : w5.cell? ⟨wr.heap.size, 0, none⟩ = some (.int .i32 f) := (Lib.cell_of_heap HB5.out 0).trans rfl); (have z1 : w5.cell? ⟨wr.heap.size, 1, none⟩ = some (.int .i32 t) := (Lib.cell_of_heap HB5.out 1).trans rfl); (have z2 : w5.cell? ⟨wr.heap.size, 2, none⟩ = some (.int .i32 x.f0) := (Lib.cell_of_heap HB5.out 2).trans rfl); (have z3 : w5.cell? ⟨wr.heap.size, 3, none⟩ = some (.int .u8 x.f1) := (Lib.cell_of_heap HB5.out 3).trans rfl)
                cases hq : qx with
                | false =>
                  (have HQ2 := Lib.hid hq); (subst hq); (clear HB5 HS5); (go_wp2); (go_ret); (have hR : R = false := by rw [HST.out, ← HQ.out]; simp)
                  exact ⟨by rw [hR] <;> rfl, fun h => absurd (hR.symm.trans h) (by decide), ⟨_, HI5.out⟩, HG5.out⟩
                | true =>
                  (subst hq); (go_wp2); (go_roundg (n - (kk + 1)))
                  case measure => have := HJ.out.1; omega
                  case rel =>
                    (have hj := HJ.out.1); (refine ⟨kk + 1, t, rfl, by go_num, Lib.hid ⟨⟨by omega, by omega⟩, ?_⟩, HS5, Lib.hid ⟨HG5.out, Nat.lt_trans HG.out.2 HL5.out⟩, HI5⟩); (rw [HST.out, ← HQ.out]); (simp [endsOk, e1, e2, hf1, hf2, e5])
    · have hltz : ¬ (kk : Int) < (n : Int) := by omega
      (obtain rfl : kk = n := by omega); (go_wp2); (go_ret); (have hR : R = true := by rw [HJ.out.2, List.drop_of_length_le (by omega)]; rfl)
      exact ⟨by rw [hR] <;> rfl, fun _ => by have := HI.out; rw [List.take_of_length_le (by omega)] at this; exact this, ⟨_, HI.out⟩, HG.out.1⟩
end Go.Proofs.YtmjnipifpeehgaaDoor.Q
