/- The comparator of nfc.Ordered: runes by their classes. -/
import Derived.Test.YtmjnipifpeehgaaDoorSNTab
import Derived.Test.YtmjnipifpeehgaaDoorSB6
import Derived.Test.YtmjnipifpeehgaaDoorSQcmpCompareuint8A
set_option linter.unusedSimpArgs false
set_option linter.unusedVariables false
namespace Go.Proofs.YtmjnipifpeehgaaDoor.Q.I
open Go.RowKit Go.Proofs.YtmjnipifpeehgaaDoorW.PrintWords Go.Proofs.YtmjnipifpeehgaaDoorW.PrintLast Go.Proofs.YtmjnipifpeehgaaDoorW.PrintMore Go.Sort Go.Proofs.YtmjnipifpeehgaaDoor.St Go.Proofs.YtmjnipifpeehgaaDoor.Q
def cmpI (a b : Int) : Int := if a < b then -1 else if b < a then 1 else 0
theorem cmpI_f (a b : Int) : cmp_Compare_uint8.f a b = some (cmpI a b) := by
  have h : ∀ z, cmp_isNaN_uint8.f z = some false := fun z => by unfold cmp_isNaN_uint8.f; simp
  unfold cmp_Compare_uint8.f cmpI
  rw [h, h, Option.bind_some, Option.bind_some, if_neg (by decide), if_neg (by decide)]
  by_cases h1 : a < b
  · rw [if_pos h1, if_pos h1]
  · rw [if_neg h1, if_neg h1]
    by_cases h2 : b < a
    · rw [if_pos h2, if_pos h2]
    · rw [if_neg h2, if_neg h2]
set_option maxHeartbeats 4000000 in
theorem ordCmp (w0 w : World) (base tb : Nat) (A : Option Addr) (c : Nat) (l : List S43) (s0 s2 s3 s4 : Value) (hb0 : Below w0.heap.size w0 w) (hbase : w0.heap.size ≤ base) (hbw : base ≤ w.heap.size) (htb : tb < base) (hn : l.length ≤ 1073741824) (hC : Kd.C k43 w0 A l.length l)
    (g0 : w.cell? ⟨tb, 0, none⟩ = some s0) (g1 : w.cell? ⟨tb, 1, none⟩ = some (.slice A l.length c)) (g2 : w.cell? ⟨tb, 2, none⟩ = some s2) (g3 : w.cell? ⟨tb, 3, none⟩ = some s3) (g4 : w.cell? ⟨tb, 4, none⟩ = some s4) :
    CmpF base w 23 #[.pointer (some ⟨tb, 0, none⟩)] (fun x y => cmpI (clsOf l x) (clsOf l y)) := by
  intro W x y hW _ _
  show Calls Tryd.prog 23 #[.int .i32 x, .int .i32 y, .pointer (some ⟨tb, 0, none⟩)] W _
  have hlt : (⟨tb, 0, none⟩ : Addr).block < W.heap.size := Nat.lt_of_lt_of_le htb (Nat.le_trans hbw hW.size)
  have hc0 : W.drew.cell? ⟨tb, 0, none⟩ = some s0 := (hW.cell htb).trans g0
  have hc1 : W.drew.cell? ⟨tb, 1, none⟩ = some (.slice A l.length c) := (hW.cell htb).trans g1
  have hc2 : W.drew.cell? ⟨tb, 2, none⟩ = some s2 := (hW.cell htb).trans g2
  have hc3 : W.drew.cell? ⟨tb, 3, none⟩ = some s3 := (hW.cell htb).trans g3
  have hc4 : W.drew.cell? ⟨tb, 4, none⟩ = some s4 := (hW.cell htb).trans g4
  have hW0 : Below w0.heap.size w0 W := hb0.trans (hW.mono hbase)
  have hcls : ∀ r W1, Below W.heap.size W W1 → Calls Tryd.prog 11 #[.agg #[s0, .slice A l.length c, s2, s3, s4], .int .i32 r] W1 fun e w' => e = .returned (.int .u8 (clsOf l r)) ∧ Below W1.heap.size W1 w' := fun r W1 h1 => class_any s0 s2 s3 s4 A c l r W1 hn (Kd.C_below hC (hW0.trans (h1.mono hW0.size)))
  have hcmp := fun W1 => cmp_Compare_uint8.calls (clsOf l x) (clsOf l y) (cmpI (clsOf l x) (clsOf l y)) W1 (cmpI_f _ _)
  have HBW := Aside0.mk (below_drew1 (Below.refl W.heap.size W))
  clear hC hW g0 g1 g2 g3 g4 hb0 hW0
  go_enter Tryd.func23, Tryd.ntmps23
  go_wp2_with fail
  refine start_ (n := 8) (S := fun w' => w'.cell? ⟨tb, 0, none⟩ = some (s0) ∧ w'.cell? ⟨tb, 1, none⟩ = some (.slice A l.length c) ∧ w'.cell? ⟨tb, 2, none⟩ = some (s2) ∧ w'.cell? ⟨tb, 3, none⟩ = some (s3) ∧ w'.cell? ⟨tb, 4, none⟩ = some (s4)) (ds := []) #[false, false, false, false, false, false, false, false] (by kernel_rfl) rfl rfl ⟨hc0, hc1, hc2, hc3, hc4⟩ (fun hHeld => ?_)
  refine pure_ (i := 1) (N := some 7) (v := ?_) (a' := ?_) #[false, true, false, false, false, false, false, false] rfl rfl (by kernel_rfl) (fun _ _ _ h => h) (Or.inl ⟨by rfl, ?_⟩) ?_ ?_
  rotate_left
  · intro w'
    (go_simp); (with_reducible rfl)
  rotate_left
  · simp only [Act.put, List.setIfInBounds_toArray, List.set_cons_zero, List.set_cons_succ, i64_w, i32_w]
    rfl
  refine pure_ (i := 4) (N := some 10) (v := ?_) (a' := ?_) #[false, true, false, false, true, false, false, false] rfl rfl (by kernel_rfl) (fun _ _ _ h => h) (Or.inl ⟨by rfl, ?_⟩) ?_ ?_
  rotate_left
  · intro w'
    (go_simp); (with_reducible rfl)
  rotate_left
  · simp only [Act.put, List.setIfInBounds_toArray, List.set_cons_zero, List.set_cons_succ, i64_w, i32_w]
    rfl
  refine take_ (i := 0) (N := some 6) (v := ?_) (a' := ?_) #[true, true, false, false, true, false, false, false] rfl rfl (by kernel_rfl) (fun _ _ _ h => h) (Or.inl ⟨by rfl, ?_⟩) hHeld ?_ ?_
  rotate_left
  · rintro w' ⟨s0, s1, s2, s3, s4⟩
    (go_simp); (with_reducible rfl)
  rotate_left
  · simp only [Act.put, List.setIfInBounds_toArray, List.set_cons_zero, List.set_cons_succ, i64_w, i32_w]
    rfl
  refine take_ (i := 3) (N := some 9) (v := ?_) (a' := ?_) #[true, true, false, true, true, false, false, false] rfl rfl (by kernel_rfl) (fun _ _ _ h => h) (Or.inl ⟨by rfl, ?_⟩) hHeld ?_ ?_
  rotate_left
  · rintro w' ⟨s0, s1, s2, s3, s4⟩
    (go_simp); (with_reducible rfl)
  rotate_left
  · simp only [Act.put, List.setIfInBounds_toArray, List.set_cons_zero, List.set_cons_succ, i64_w, i32_w]
    rfl
  refine one_ (i := 2) (N := some 8) #[true, true, true, true, true, false, false, false] rfl rfl (by kernel_rfl) (by decide) (fun K hK => ?_)
  refine goes_ Tryd.func11 (by kernel_rfl) rfl #[.agg #[s0, .slice A l.length c, s2, s3, s4], .int .i32 x] (by rfl) rfl rfl (by simp only [List.map_toArray, List.map_cons, List.map_nil]; rfl) ?_
  with_reducible refine (hcls x _ HBW.out).mono ?_
  rintro e w3 ⟨rfl, hb⟩
  refine ⟨_, rfl, ?_⟩
  have HB2 := Aside0.mk ((HBW.out).trans (hb.mono (HBW.out).size))
  clear hb
  refine hK.out _ _ ⟨((HB2.out.cell hlt).trans hc0), ((HB2.out.cell hlt).trans hc1), ((HB2.out.cell hlt).trans hc2), ((HB2.out.cell hlt).trans hc3), ((HB2.out.cell hlt).trans hc4)⟩ (fun hHeld => ?_)
  clear hK K
  refine norm_ (a' := ?_) ?_ ?_
  rotate_left
  · show Act.put _ (some 8) _ = _
    (simp only [Act.put, List.setIfInBounds_toArray, List.set_cons_zero, List.set_cons_succ, i64_w, i32_w]); (rfl)
  refine one_ (i := 5) (N := some 11) #[true, true, true, true, true, true, false, false] rfl rfl (by kernel_rfl) (by decide) (fun K hK => ?_)
  refine goes_ Tryd.func11 (by kernel_rfl) rfl #[.agg #[s0, .slice A l.length c, s2, s3, s4], .int .i32 y] (by rfl) rfl rfl (by simp only [List.map_toArray, List.map_cons, List.map_nil]; rfl) ?_
  with_reducible refine (hcls y _ HB2.out).mono ?_
  rintro e w3 ⟨rfl, hb⟩
  refine ⟨_, rfl, ?_⟩
  have HB5 := Aside0.mk ((HB2.out).trans (hb.mono (HB2.out).size))
  clear hb
  refine hK.out _ _ ⟨((HB5.out.cell hlt).trans hc0), ((HB5.out.cell hlt).trans hc1), ((HB5.out.cell hlt).trans hc2), ((HB5.out.cell hlt).trans hc3), ((HB5.out.cell hlt).trans hc4)⟩ (fun hHeld => ?_)
  clear hK K
  refine norm_ (a' := ?_) ?_ ?_
  rotate_left
  · show Act.put _ (some 11) _ = _
    (simp only [Act.put, List.setIfInBounds_toArray, List.set_cons_zero, List.set_cons_succ, i64_w, i32_w]); (rfl)
  refine one_ (i := 6) (N := some 12) #[true, true, true, true, true, true, true, false] rfl rfl (by kernel_rfl) (by decide) (fun K hK => ?_)
  refine goes_ Tryd.func24 (by kernel_rfl) rfl #[.int .u8 (clsOf l x), .int .u8 (clsOf l y)] (by rfl) rfl rfl (by simp only [List.map_toArray, List.map_cons, List.map_nil]; rfl) ?_
  with_reducible refine (hcmp _).mono ?_
  rintro e w3 ⟨rfl, ⟨nd, rfl⟩⟩
  refine ⟨_, rfl, ?_⟩
  have HB6 := Aside0.mk (pw_below_drewN HB5.out nd)
  refine hK.out _ _ ⟨((HB6.out.cell hlt).trans hc0), ((HB6.out.cell hlt).trans hc1), ((HB6.out.cell hlt).trans hc2), ((HB6.out.cell hlt).trans hc3), ((HB6.out.cell hlt).trans hc4)⟩ (fun hHeld => ?_)
  clear hK K
  refine norm_ (a' := ?_) ?_ ?_
  rotate_left
  · show Act.put _ (some 12) _ = _
    (simp only [Act.put, List.setIfInBounds_toArray, List.set_cons_zero, List.set_cons_succ, i64_w, i32_w]); (rfl)
  refine pure_ (i := 7) (N := some 5) (v := ?_) (a' := ?_) #[true, true, true, true, true, true, true, true] rfl rfl (by kernel_rfl) (fun _ _ _ h => h) (Or.inl ⟨by rfl, ?_⟩) ?_ ?_
  rotate_left
  · intro w'
    (go_simp); (with_reducible rfl)
  rotate_left
  · simp only [Act.put, List.setIfInBounds_toArray, List.set_cons_zero, List.set_cons_succ, i64_w, i32_w]
    rfl
  refine done_ (by kernel_rfl) ?_
  go_wp2
  go_ret
  exact ⟨rfl, HB6.out⟩
end Go.Proofs.YtmjnipifpeehgaaDoor.Q.I
