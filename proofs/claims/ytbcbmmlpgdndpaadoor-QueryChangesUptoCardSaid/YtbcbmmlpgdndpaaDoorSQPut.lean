/- query.Put: what it answers. -/
import Derived.Test.YtbcbmmlpgdndpaaDoorSQDrop
import Derived.ArgAppend
import Derived.Lib.AppendZeros
set_option linter.unusedSimpArgs false
set_option linter.unusedVariables false
namespace Go.Proofs.YtbcbmmlpgdndpaaDoor.Q
open Go.RowKit Go.Proofs.YtbcbmmlpgdndpaaDoorW.PrintWords Go.Proofs.YtbcbmmlpgdndpaaDoorW.PrintLast Go.Proofs.YtbcbmmlpgdndpaaDoorW.PrintMore Go.Proofs.YtbcbmmlpgdndpaaDoor.R Go.Proofs.YtbcbmmlpgdndpaaDoor.P1
theorem litF (W : World) (b : Nat) (n vv : ByteArray) {ok : Nat → Prop} : Reps (kF.M W b ok) kF.sz [(⟨n, vv⟩ : Fld)] [.string n, .string vv] := by
  refine ⟨rfl, fun j x hj => ?_⟩
  have hj0 : j = 0 := by
    have := (List.getElem?_eq_some_iff.1 hj).1
    simpa using this
  subst hj0
  simp at hj
  subst hj
  exact k32_mkM _ _ _ _
theorem R_flat {W : World} {b : Nat} {v : Value} {m : List Fld} (h : W.ownsRow b 32 2 v m.length (m.flatMap eF)) : Kd.R kF 32 W b (fun _ => True) v m := by
  refine ⟨fun _ _ => trivial, m.flatMap eF, h, ⟨flat_len m, fun j x hj => ?_⟩⟩
  obtain ⟨k0, k1⟩ := flat_get m j x hj
  have : ((m.flatMap eF).drop (j * 2)).take 2 = [.string x.f0, .string x.f1] := by
    have hjl := (List.getElem?_eq_some_iff.1 hj).1
    have hfl := flat_len m
    rw [List.drop_eq_getElem_cons (show j * 2 < (m.flatMap eF).length by omega), List.drop_eq_getElem_cons (show j * 2 + 1 < (m.flatMap eF).length by omega)]
    rw [List.getElem?_eq_getElem (by omega)] at k0 k1
    simp only [Option.some.injEq] at k0 k1
    rw [k0, k1]; rfl
  show kF.M _ _ _ x (((m.flatMap eF).drop (j * 2)).take 2)
  rw [this]
  exact k32_mkM _ _ _ x
theorem flat_C {W : World} {ad : Addr} {m : List Fld} (h : Kd.C kF W (some ad) m.length m) (j : Nat) (u : Value) (hj : (m.flatMap eF)[j]? = some u) : W.cell? (ad.add j) = some u := by
  have hjl := (List.getElem?_eq_some_iff.1 hj).1
  rw [flat_len] at hjl
  obtain ⟨i, r, hr, rfl⟩ : ∃ i r, r < 2 ∧ j = i * 2 + r := ⟨j / 2, j % 2, by omega, by omega⟩
  have hil : i < m.length := by omega
  have hx := List.getElem?_eq_getElem hil
  obtain ⟨k0, k1⟩ := flat_get m i _ hx
  obtain ⟨ad', he, hc⟩ := h.2.2 (by omega)
  cases he
  obtain ⟨cs, hl, hK, hcc⟩ := hc i _ hx
  have hcs := k32_open hK
  subst hcs
  rcases r with _ | _ | r
  · rw [Nat.add_zero] at hj ⊢
    rw [k0] at hj; cases hj
    exact hcc 0 _ rfl
  · rw [Nat.zero_add] at hj ⊢
    rw [k1] at hj; cases hj
    exact hcc 1 _ rfl
  · omega
/-- what is put -/
def putN (n : ByteArray) (vv : ByteArray) (l : List Fld) : List Fld := match findQ n.data.toList l with
  | none => l ++ [⟨n, vv⟩]
  | some _ => l.takeWhile (lackN n.data.toList) ++ [⟨n, vv⟩] ++ dropN n.data.toList (l.dropWhile (lackN n.data.toList))
theorem takeWhile_at (n : List UInt8) (l : List Fld) (k : Nat) (hk : k < l.length) (hq : hasN n l[k] = true) (h0 : ∀ x ∈ l.take k, hasN n x = false) : l.takeWhile (lackN n) = l.take k ∧ l.dropWhile (lackN n) = l.drop k := by
  have e : l = l.take k ++ l[k] :: l.drop (k + 1) := by rw [List.getElem_cons_drop, List.take_append_drop]
  have h1 : ∀ x ∈ l.take k, lackN n x = true := fun x hx => by unfold lackN; rw [h0 x hx]; rfl
  have h2 : lackN n l[k] = false := by unfold lackN; rw [hq]; rfl
  have t1 : (l.take k ++ l[k] :: l.drop (k + 1)).takeWhile (lackN n) = l.take k := by
    rw [List.takeWhile_append_of_pos h1, List.takeWhile_cons_of_neg (by rw [h2]; decide), List.append_nil]
  have t2 : (l.take k ++ l[k] :: l.drop (k + 1)).dropWhile (lackN n) = l.drop k := by
    rw [List.dropWhile_append_of_pos h1, List.dropWhile_cons_of_neg (by rw [h2]; decide), List.getElem_cons_drop]
  rw [← e] at t1 t2
  exact ⟨t1, t2⟩
set_option maxHeartbeats 4000000 in
set_option maxRecDepth 100000 in
theorem qput_any (A : Option Addr) (c : Nat) (l : List Fld) (n vv : ByteArray) (w : World) (hn : l.length ≤ 1073741824) (hC : Kd.C kF w A l.length l) (hc : l.length ≤ c) :
    Calls Tryd.prog 16 #[.slice A l.length c, .string n, .string vv] w fun e w' => ∃ v, e = .returned v ∧ Kd.R kF 32 w' w.heap.size (fun _ => True) v (putN n vv l) ∧ Below w.heap.size w w' := by
  have HCC := Lib.hid hC
  have HCL := Lib.hid hc
  have HN := Lib.hid hn
  clear hC hn hc
  generalize hnl : l.length = m at *
  go_enter Tryd.func16, Tryd.ntmps16
  go_wp2_with fail
  obtain ⟨W0, hW0⟩ : ∃ W0, W0 = w.alloc (.cells #[.string n, .string vv] 32) := ⟨_, rfl⟩
  rw [← hW0]
  have P0 : W0.heap[w.heap.size]? = some (.cells #[.string n, .string vv] 32 (0, 0)) := by rw [hW0]; exact heap_new _ _
  have B0 : Below w.heap.size w W0 := by rw [hW0]; exact (Below.refl _ w).alloc (Nat.le_refl _) _
  have s0 : W0.heap.size = w.heap.size + 1 := by rw [hW0]; simp
  clear hW0
  have HF0 := Lib.hid (And.intro P0 (And.intro B0 s0))
  clear P0 B0 s0
  have hnm := named_calls n W0
  refine hnm.mono ?_
  rintro e w1 ⟨rfl, rfl⟩
  clear hnm
  have hB1 : Below W0.heap.size W0 (W0.alloc (.cells #[.string n] 9)) := (Below.refl _ W0).alloc (Nat.le_refl _) _
  have hcb := heap_new W0 (.cells #[.string n] 9)
  have HB1 := Lib.hid (HF0.out.2.1.trans (hB1.mono HF0.out.2.1.size))
  have hidx := idx_named A c l n W0.heap.size w _ HB1.out (by rw [Lib.cell_of_heap hcb]; rfl) (by rw [hnl]; exact HN.out) (by rw [hnl]; exact HCC.out)
  rw [hnl] at hidx
  clear hcb
  go_wp2_with fail
  refine hidx.mono ?_
  rintro e W1 ⟨r, rfl, hr, hb2⟩
  have HB2 := Lib.hid (HB1.out.trans (hb2.mono HB1.out.size))
  have P1 := ((hB1.trans (hb2.mono hB1.size)).block w.heap.size (by rw [HF0.out.2.2]; omega)).trans HF0.out.1
  rw [← hnl] at hr
  have hs := hit_split l n.data.toList r hr
  clear hidx hb2 hr HB1 hB1 HF0
  obtain ⟨fb, hfbe⟩ : ∃ fb, fb = w.heap.size := ⟨_, rfl⟩
  rw [← hfbe] at P1 ⊢
  have hf0 : W1.cell? ⟨fb, 0, none⟩ = some (.string n) := by rw [Lib.cell_of_heap P1]; rfl
  have hf1 : W1.cell? ⟨fb, 1, none⟩ = some (.string vv) := by rw [Lib.cell_of_heap P1]; rfl
  have hfb : fb < W1.heap.size := (Array.getElem?_eq_some_iff.1 P1).1
  have HFB := Lib.hid hfbe
  clear P1 hfbe
  have hd0 : W1.drew.cell? ⟨fb, 0, none⟩ = some (.string n) := hf0
  have hd1 : W1.drew.cell? ⟨fb, 1, none⟩ = some (.string vv) := hf1
  have HB := Aside0.mk (Below.refl W1.heap.size W1).drew
  have hC1 : ∀ W', Below W1.heap.size W1 W' → Kd.C kF W' A l.length l := fun W' h => Kd.C_below (Kd.C_below (by rw [hnl]; exact HCC.out) HB2.out) h
  rcases hs with ⟨rfl, hno⟩ | ⟨k, hk, rfl, hq, h0⟩
  · have HFN := Lib.hid (show putN n vv l = l ++ [⟨n, vv⟩] by unfold putN; rw [find_none n.data.toList l hno])
    have hclone : ∀ W', Below W1.heap.size W1 W' → Calls Tryd.prog 37 #[.slice A m c] W' fun e w' => ∃ v, e = .returned v ∧ Kd.R kF 32 w' W'.heap.size (fun _ => True) v l ∧ Below W'.heap.size W' w' := fun W' h => by
      have := cloneF_calls A c l W' (hC1 W' h) (by rw [hnl]; exact HCL.out) (by rw [hnl]; have := HN.out; omega)
      rwa [hnl] at this
    have HLEN := Lib.hid (show (l.length + 1) * 32 ≤ 140737488355328 by rw [hnl]; have := HN.out; omega)
    have HNL := Lib.hid hnl
    clear hno hC1 hnl
    go_wp2_with fail
    -- REGION4
    refine start_ (n := 6) (S := fun w' => w'.cell? ⟨fb, 0, none⟩ = some (.string n) ∧ w'.cell? ⟨fb, 1, none⟩ = some (.string vv)) (ds := []) #[false, false, false, false, false, false] (by kernel_rfl) rfl rfl ⟨hd0, hd1⟩ (fun hHeld => ?_)
    generalize hW1d : W1.drew = W1d at HB hHeld ⊢
    refine pure_ (i := 0) (N := some 18) (v := ?_) (a' := ?_) #[true, false, false, false, false, false] rfl rfl (by kernel_rfl) (fun _ _ _ h => h) (Or.inl ⟨by rfl, ?_⟩) ?_ ?_
    rotate_left
    · intro w'
      go_simp
      with_reducible rfl
    rotate_left
    · simp only [Act.put, List.setIfInBounds_toArray, List.set_cons_zero, List.set_cons_succ, i64_w, i32_w]
      rfl
    refine take_ (i := 2) (N := some 20) (v := ?_) (a' := ?_) #[true, false, true, false, false, false] rfl rfl (by kernel_rfl) (fun _ _ _ h => h) (Or.inl ⟨by rfl, ?_⟩) hHeld ?_ ?_
    rotate_left
    · rintro w' ⟨s0, s1⟩
      go_simp
      with_reducible rfl
    rotate_left
    · simp only [Act.put, List.setIfInBounds_toArray, List.set_cons_zero, List.set_cons_succ, i64_w, i32_w]
      rfl
    refine join_ (σ := Value × Value) 2 #[true, true, true, true, false, false] (fun s => [(19, s.1), (21, s.2)]) (fun s w' => Kd.R kF 32 w' W1.heap.size (fun _ => True) s.1 l ∧ Kd.R kF 32 w' W1.heap.size (fun _ => True) s.2 [(⟨n, vv⟩ : Fld)] ∧ Below W1.heap.size W1 w') ?_ ?_
    rotate_left
    · intro hCont
      refine two_ (i := 1) (j := 3) (Ni := some 19) (Nj := some 21) #[true, true, true, false, false, false] #[true, false, true, true, false, false] rfl rfl rfl rfl (by kernel_rfl) (by decide) (by decide) (fun K hK => ?_) (fun K hK => ?_)
      · skip
        refine goes_ Tryd.func37 (by kernel_rfl) rfl #[.slice A m c] (by rfl) rfl rfl (by simp only [List.map_toArray, List.map_cons, List.map_nil]; rfl) ?_
        with_reducible refine (hclone _ HB.out).mono ?_
        rintro e w3 ⟨v19, rfl, ho19, hb⟩
        refine ⟨_, rfl, ?_⟩
        have HO19 := Aside0.mk (Kd.R_lower ho19 HB.out.size)
        clear ho19
        have n0_ := Aside0.mk (HB.out.trans (hb.mono HB.out.size))
        clear HB
        have HB := n0_
        clear hb
        refine hK.out _ _ ⟨((HB.out.cell hfb).trans hf0), ((HB.out.cell hfb).trans hf1)⟩ (fun hHeld => ?_)
        clear hK K
        refine norm_ (a' := ?_) ?_ ?_
        rotate_left
        · show Act.put _ (some 19) _ = _
          simp only [Act.put, List.setIfInBounds_toArray, List.set_cons_zero, List.set_cons_succ, i64_w, i32_w]
          rfl
        refine one_ (i := 3) (N := some 21) #[true, true, true, true, false, false] rfl rfl (by kernel_rfl) (by decide) (fun K hK => ?_)
        refine Kd.R_lit_step kF (w0 := W1) W1.heap.size 32 (by rfl) (N := 21) rfl (xs := [(⟨n, vv⟩ : Fld)]) (inner := [.string n, .string vv]) (ok := fun _ => True) (okp := fun _ => True) ?hr (litF _ _ n vv) (fun _ hk => hk) trivial HB.out HB.out.size (by simp) ?_
        (case hr => first | (go_simp; done) | (go_simp; rfl))
        intro v21 w3 ho21 hb hg hnew
        have HL21 := Aside0.mk ho21
        have n1_ := Aside0.mk (Kd.R_grown2 HO19.out rfl hg (fun k e e_ => by simp at e))
        clear HO19
        have HO19 := n1_
        have n0_ := Aside0.mk hb
        clear HB
        have HB := n0_
        clear ho21 hb hg hnew
        refine hK.out _ _ ⟨((HB.out.cell hfb).trans hf0), ((HB.out.cell hfb).trans hf1)⟩ (fun hHeld => ?_)
        clear hK K
        refine norm_ (a' := ?_) ?_ ?_
        rotate_left
        · show Act.put _ (some 21) _ = _
          simp only [Act.put, List.setIfInBounds_toArray, List.set_cons_zero, List.set_cons_succ, i64_w, i32_w]
          rfl
        exact norm_ (by simp only [putAll, Act.put, List.setIfInBounds_toArray, List.set_cons_zero, List.set_cons_succ]) (hCont (v19, v21) _ ⟨HO19.out, HL21.out, HB.out⟩)
      · skip
        refine Kd.R_lit_step kF (w0 := W1) W1.heap.size 32 (by rfl) (N := 21) rfl (xs := [(⟨n, vv⟩ : Fld)]) (inner := [.string n, .string vv]) (ok := fun _ => True) (okp := fun _ => True) ?hr (litF _ _ n vv) (fun _ hk => hk) trivial HB.out HB.out.size (by simp) ?_
        (case hr => first | (go_simp; done) | (go_simp; rfl))
        intro v21 w3 ho21 hb hg hnew
        have HL21 := Aside0.mk ho21
        have n0_ := Aside0.mk hb
        clear HB
        have HB := n0_
        clear ho21 hb hg hnew
        refine hK.out _ _ ⟨((HB.out.cell hfb).trans hf0), ((HB.out.cell hfb).trans hf1)⟩ (fun hHeld => ?_)
        clear hK K
        refine norm_ (a' := ?_) ?_ ?_
        rotate_left
        · show Act.put _ (some 21) _ = _
          simp only [Act.put, List.setIfInBounds_toArray, List.set_cons_zero, List.set_cons_succ, i64_w, i32_w]
          rfl
        refine one_ (i := 1) (N := some 19) #[true, true, true, true, false, false] rfl rfl (by kernel_rfl) (by decide) (fun K hK => ?_)
        refine goes_ Tryd.func37 (by kernel_rfl) rfl #[.slice A m c] (by rfl) rfl rfl (by simp only [List.map_toArray, List.map_cons, List.map_nil]; rfl) ?_
        with_reducible refine (hclone _ HB.out).mono ?_
        rintro e w3 ⟨v19, rfl, ho19, hb⟩
        refine ⟨_, rfl, ?_⟩
        have HO19 := Aside0.mk (Kd.R_lower ho19 HB.out.size)
        clear ho19
        have n0_ := Aside0.mk (HB.out.trans (hb.mono HB.out.size))
        have n1_ := Aside0.mk (Kd.R_below HL21.out hb)
        clear HB
        have HB := n0_
        clear hb
        clear HL21
        have HL21 := n1_
        refine hK.out _ _ ⟨((HB.out.cell hfb).trans hf0), ((HB.out.cell hfb).trans hf1)⟩ (fun hHeld => ?_)
        clear hK K
        refine norm_ (a' := ?_) ?_ ?_
        rotate_left
        · show Act.put _ (some 19) _ = _
          simp only [Act.put, List.setIfInBounds_toArray, List.set_cons_zero, List.set_cons_succ, i64_w, i32_w]
          rfl
        exact norm_ (by simp only [putAll, Act.put, List.setIfInBounds_toArray, List.set_cons_zero, List.set_cons_succ]) (hCont (v19, v21) _ ⟨HO19.out, HL21.out, HB.out⟩)
    rintro ⟨v19, v21⟩ W3 ⟨hO19, hL21, hB3⟩
    obtain ⟨A21, c21, e21⟩ := Kd.R_slice hL21
    subst e21
    have HB := Aside0.mk hB3
    have HO19 := Aside0.mk hO19
    have HL21 := Aside0.mk hL21
    have hHeld : W3.cell? ⟨fb, 0, none⟩ = some (.string n) ∧ W3.cell? ⟨fb, 1, none⟩ = some (.string vv) := ⟨(hB3.cell hfb).trans hf0, (hB3.cell hfb).trans hf1⟩
    refine norm_ (a' := ?_) ?_ ?_
    rotate_left
    · simp only [putAll, Act.put, List.setIfInBounds_toArray, List.set_cons_zero, List.set_cons_succ]
      rfl
    refine one_ (i := 4) (N := some 22) #[true, true, true, true, true, false] rfl rfl (by kernel_rfl) (by decide) (fun K hK => ?_)
    refine Kd.R_append_rows_step kF (w0 := W1) W1.heap.size (by rfl) (.tmp 19) (.tmp 21) 22 32 (.agg #[.string ⟨#[]⟩, .string ⟨#[]⟩]) 32 rfl Tryd.underlying22 info32 rfl (by decide) (by omega) v19 l [(⟨n, vv⟩ : Fld)] A21 1 c21 (fun _ => True) (fun _ => False) rfl rfl HO19.out (Kd.R_reads' HL21.out).2.2 (fun _ _ h => h) (fun _ h => h.elim) (fun _ _ => trivial) HB.out HB.out.size HLEN.out ?_
    intro v22 w3 ho hb hg hat
    have HO22 := Aside0.mk ho
    have n0_ := Aside0.mk hb
    clear HB
    have HB := n0_
    clear ho hb hg hat
    refine hK.out _ _ ⟨((HB.out.cell hfb).trans hf0), ((HB.out.cell hfb).trans hf1)⟩ (fun hHeld => ?_)
    clear hK K
    refine norm_ (a' := ?_) ?_ ?_
    rotate_left
    · show Act.put _ (some 22) _ = _
      simp only [Act.put, List.setIfInBounds_toArray, List.set_cons_zero, List.set_cons_succ, i64_w, i32_w]
      rfl
    refine pure_ (i := 5) (N := some 6) (v := ?_) (a' := ?_) #[true, true, true, true, true, true] rfl rfl (by kernel_rfl) (fun _ _ _ h => h) (Or.inl ⟨by rfl, ?_⟩) ?_ ?_
    rotate_left
    · intro w'
      go_simp
      with_reducible rfl
    rotate_left
    · simp only [Act.put, List.setIfInBounds_toArray, List.set_cons_zero, List.set_cons_succ, i64_w, i32_w]
      rfl
    refine done_ (by kernel_rfl) ?_
    -- END REGION4
    go_wp2
    go_ret
    exact ⟨_, rfl, by rw [HFN.out]; exact Kd.R_lower HO22.out HB2.out.size, HB2.out.trans (HB.out.mono HB2.out.size)⟩
  · obtain ⟨ht1, ht2⟩ := takeWhile_at n.data.toList l k hk hq h0
    have HFN := Lib.hid (show putN n vv l = (l.take k ++ [⟨n, vv⟩]) ++ dropN n.data.toList (l.drop k) by unfold putN; rw [find_some n.data.toList l k hk hq h0]; simp only; rw [ht1, ht2])
    have hkm : k < m := by omega
    obtain ⟨i0, hi0, hz0, hsz0, hby0⟩ := info_parts info32
    obtain ⟨A5, hA5⟩ : ∃ A5, A5 = (if c = k then A else A.map (·.add (k * kF.sz))) := ⟨_, rfl⟩
    have hcutB : ∀ W9 : World, (Instr.slice 22 (.slice A m c) (some (.int .i64 k)) none none).run Tryd.prog W9 = .ok (.slice A5 (m - k) (c - k)) W9 := by
      intro W9
      have h := cut_from (P := Tryd.prog) 22 32 .i64 Tryd.underlying22 hi0 2 hsz0 A m c k (by omega) (by omega) W9
      rw [h, Int.toNat_natCast, hA5]; rfl
    have hcutA : ∀ W9 : World, (Instr.slice 22 (.slice A m c) none (some (.int .i64 k)) (some (.int .i64 k))).run Tryd.prog W9 = .ok (.slice A k k) W9 := by
      intro W9
      have hu : Tryd.prog.underlying 22 = some (.slice (Tryd.prog.elem 22)) := by kernel_rfl
      have hcl := HCL.out
      rw [run_slice_hm W9 22 A m c hu .i64 .i64 k k (by omega) (by omega) (by omega)]
      have hel : Tryd.prog.elem 22 = 32 := by kernel_rfl
      have ha : (A.map fun x => x.add 0) = A := by cases A <;> simp [Addr.add]
      rw [hel]
      simp [sizeOf, typeInfo, hi0, sliced, Result.andThen, ha]
    have hdrop : ∀ W', Below W1.heap.size W1 W' → Calls Tryd.prog 18 #[.slice A5 (m - k) (c - k), .string n] W' fun e w' => ∃ v, e = .returned v ∧ Kd.R kF 32 w' W'.heap.size (fun _ => True) v (dropN n.data.toList (l.drop k)) ∧ Below W'.heap.size W' w' := fun W' h => by
      have h1 := Kd.C_drop (m := k) (c := c) (hC1 W' h) (by omega) (by rw [hnl]; exact HCL.out)
      rw [← hA5] at h1
      have h2 := qdrop_any A5 (c - k) (l.drop k) n W' (by rw [List.length_drop, hnl]; have := HN.out; omega) h1 (by rw [List.length_drop, hnl]; have := HCL.out; omega)
      rwa [List.length_drop, hnl] at h2
    obtain ⟨ad, rfl⟩ : ∃ ad, A = some ad := by
      obtain ⟨ad, he, _⟩ := (hC1 W1 (Below.refl _ _)).2.2 (by omega)
      exact ⟨ad, he⟩
    have happ : ∀ W' q, Below W1.heap.size W1 W' → W'.heap[q]? = some (.cells #[.string n, .string vv] 32 (0, 0)) →
        ∃ v29 w3, (Builtin.append_ #[22, 22] 22 #[.slice (some ad) k k, .slice (some ⟨q, 0, none⟩) 1 1]).run Tryd.prog W' = .ok v29 w3 ∧ Kd.R kF 32 w3 W1.heap.size (fun _ => True) v29 (l.take k ++ [(⟨n, vv⟩ : Fld)]) ∧ W'.grownBy w3 none := by
      intro W' q hB hL
      have hCk := Kd.C_take (hC1 W' hB) (show k ≤ l.length by omega)
      have hlk : (l.take k).length = k := by rw [List.length_take]; omega
      obtain ⟨v', w', hr, ho, hg⟩ := run_append_arg_grows (P := Tryd.prog) (w := W') 22 22 32 i0 (.agg #[.string ⟨#[]⟩, .string ⟨#[]⟩]) 2 32 Tryd.underlying22 hi0 hz0 hsz0 hby0 rfl (by decide) ad k k ((l.take k).flatMap eF) (by rw [flat_len, hlk]) (fun j u hj => flat_C hCk j u hj) ⟨q, 0, none⟩ 1 1 [.string n, .string vv] rfl (fun j u hj => by
          rw [add_mk, Lib.cell_of_heap hL]
          simpa using hj) (by omega) (by unfold maxLen; have := HN.out; omega) (by have := HN.out; omega)
      refine ⟨v', w', hr, ?_, hg⟩
      refine Kd.R_lower (R_flat (m := l.take k ++ [(⟨n, vv⟩ : Fld)]) ?_) hB.size
      rw [List.length_append, hlk, List.flatMap_append]
      exact ho
    have HLEN := Lib.hid (show ((l.take k ++ [(⟨n, vv⟩ : Fld)]).length + (dropN n.data.toList (l.drop k)).length) * 32 ≤ 140737488355328 by
      have h1 : (dropN n.data.toList (l.drop k)).length ≤ (l.drop k).length := List.length_filter_le _ _
      rw [List.length_drop] at h1
      rw [List.length_append, List.length_take, List.length_cons, List.length_nil]
      have := HN.out
      omega)
    have HNL := Lib.hid hnl
    clear hC1 hk hq h0 ht1 ht2 hnl hi0 hz0 hsz0 hby0 hA5
    go_wp2_with fail
    -- REGION5
    refine start_ (n := 14) (S := fun w' => w'.cell? ⟨fb, 0, none⟩ = some (.string n) ∧ w'.cell? ⟨fb, 1, none⟩ = some (.string vv)) (ds := []) #[false, false, false, false, false, false, false, false, false, false, false, false, false, false] (by kernel_rfl) rfl rfl ⟨hd0, hd1⟩ (fun hHeld => ?_)
    generalize hW1d : W1.drew = W1d at HB hHeld ⊢
    refine pure_ (i := 0) (N := some 23) (v := ?_) (a' := ?_) #[true, false, false, false, false, false, false, false, false, false, false, false, false, false] rfl rfl (by kernel_rfl) (fun _ _ _ h => h) (Or.inl ⟨by rfl, ?_⟩) ?_ ?_
    rotate_left
    · intro w'
      go_simp
      with_reducible rfl
    rotate_left
    · simp only [Act.put, List.setIfInBounds_toArray, List.set_cons_zero, List.set_cons_succ, i64_w, i32_w]
      rfl
    refine pure_ (i := 1) (N := some 24) (v := ?_) (a' := ?_) #[true, true, false, false, false, false, false, false, false, false, false, false, false, false] rfl rfl (by kernel_rfl) (fun _ _ _ h => h) (Or.inl ⟨by rfl, ?_⟩) ?_ ?_
    rotate_left
    · intro w'
      go_simp
      with_reducible rfl
    rotate_left
    · simp only [Act.put, List.setIfInBounds_toArray, List.set_cons_zero, List.set_cons_succ, i64_w, i32_w]
      rfl
    refine pure_ (i := 2) (N := some 25) (v := ?_) (a' := ?_) #[true, true, true, false, false, false, false, false, false, false, false, false, false, false] rfl rfl (by kernel_rfl) (fun _ _ _ h => h) (Or.inl ⟨by rfl, ?_⟩) ?_ ?_
    rotate_left
    · intro w'
      go_simp
      with_reducible rfl
    rotate_left
    · simp only [Act.put, List.setIfInBounds_toArray, List.set_cons_zero, List.set_cons_succ, i64_w, i32_w]
      rfl
    refine pure_ (i := 3) (N := some 26) (v := ?_) (a' := ?_) #[true, true, true, true, false, false, false, false, false, false, false, false, false, false] rfl rfl (by kernel_rfl) (fun _ _ _ h => h) (Or.inl ⟨by rfl, ?_⟩) ?_ ?_
    rotate_left
    · intro w'
      go_simp
      with_reducible rfl
    rotate_left
    · simp only [Act.put, List.setIfInBounds_toArray, List.set_cons_zero, List.set_cons_succ, i64_w, i32_w]
      rfl
    refine pure_ (i := 7) (N := some 30) (v := ?_) (a' := ?_) #[true, true, true, true, false, false, false, true, false, false, false, false, false, false] rfl rfl (by kernel_rfl) (fun _ _ _ h => h) (Or.inl ⟨by rfl, ?_⟩) ?_ ?_
    rotate_left
    · intro w'
      go_simp
      with_reducible rfl
    rotate_left
    · simp only [Act.put, List.setIfInBounds_toArray, List.set_cons_zero, List.set_cons_succ, i64_w, i32_w]
      rfl
    refine pure_ (i := 8) (N := some 31) (v := ?_) (a' := ?_) #[true, true, true, true, false, false, false, true, true, false, false, false, false, false] rfl rfl (by kernel_rfl) (fun _ _ _ h => h) (Or.inl ⟨by rfl, ?_⟩) ?_ ?_
    rotate_left
    · intro w'
      go_simp
      with_reducible rfl
    rotate_left
    · simp only [Act.put, List.setIfInBounds_toArray, List.set_cons_zero, List.set_cons_succ, i64_w, i32_w]
      rfl
    refine pure_ (i := 9) (N := some 32) (v := ?_) (a' := ?_) #[true, true, true, true, false, false, false, true, true, true, false, false, false, false] rfl rfl (by kernel_rfl) (fun _ _ _ h => h) (Or.inl ⟨by rfl, ?_⟩) ?_ ?_
    rotate_left
    · intro w'
      go_simp
      with_reducible rfl
    rotate_left
    · simp only [Act.put, List.setIfInBounds_toArray, List.set_cons_zero, List.set_cons_succ, i64_w, i32_w]
      rfl
    refine pure_ (i := 10) (N := some 33) (v := ?_) (a' := ?_) #[true, true, true, true, false, false, false, true, true, true, true, false, false, false] rfl rfl (by kernel_rfl) (fun _ _ _ h => h) (Or.inl ⟨by rfl, ?_⟩) ?_ ?_
    rotate_left
    · intro w'
      go_simp
      with_reducible rfl
    rotate_left
    · simp only [Act.put, List.setIfInBounds_toArray, List.set_cons_zero, List.set_cons_succ, i64_w, i32_w]
      rfl
    refine take_ (i := 4) (N := some 27) (v := ?_) (a' := ?_) #[true, true, true, true, true, false, false, true, true, true, true, false, false, false] rfl rfl (by kernel_rfl) (fun _ _ _ h => h) (Or.inl ⟨by rfl, ?_⟩) hHeld ?_ ?_
    rotate_left
    · rintro w' ⟨s0, s1⟩
      go_simp
      with_reducible rfl
    rotate_left
    · simp only [Act.put, List.setIfInBounds_toArray, List.set_cons_zero, List.set_cons_succ, i64_w, i32_w]
      rfl
    refine one_ (i := 5) (N := some 28) #[true, true, true, true, true, true, false, true, true, true, true, false, false, false] rfl rfl (by kernel_rfl) (by decide) (fun K hK => ?_)
    refine value_ (w1 := ?_) (v := ?_) (by rfl) rfl ?_ ?_
    rotate_left 2
    · go_simp
      constructor
      · rfl
      · rfl
    have n0_ := Aside0.mk (HB.out.alloc HB.out.size (.cells #[.string n, .string vv] 32))
    have HL := Aside0.mk (heap_new W1d (.cells #[.string n, .string vv] 32))
    have HQ5 := Aside0.mk HB.out.size
    clear HB
    have HB := n0_
    refine hK.out _ _ ⟨((HB.out.cell hfb).trans hf0), ((HB.out.cell hfb).trans hf1)⟩ (fun hHeld => ?_)
    clear hK K
    refine norm_ (a' := ?_) ?_ ?_
    rotate_left
    · show Act.put _ (some 28) _ = _
      simp only [Act.put, List.setIfInBounds_toArray, List.set_cons_zero, List.set_cons_succ, i64_w, i32_w]
      rfl
    refine one_ (i := 6) (N := some 29) #[true, true, true, true, true, true, true, true, true, true, true, false, false, false] rfl rfl (by kernel_rfl) (by decide) (fun K hK => ?_)
    obtain ⟨v29, w3, hrun, ho, hg⟩ := happ (W1d.alloc (.cells #[.string n, .string vv] 32)) W1d.heap.size HB.out HL.out
    rw [if_pos (by rfl)]
    refine Lib.wp_append_run _ (.tmp 26) (.tmp 28) 22 22 rfl _ _ rfl rfl v29 w3 hrun ?_
    have HO29 := Aside0.mk ho
    have n0_ := Aside0.mk (HB.out.grown hg HB.out.size (fun k e => by cases e))
    clear HB
    have HB := n0_
    clear ho hg hrun
    refine hK.out _ _ ⟨((HB.out.cell hfb).trans hf0), ((HB.out.cell hfb).trans hf1)⟩ (fun hHeld => ?_)
    clear hK K
    refine norm_ (a' := ?_) ?_ ?_
    rotate_left
    · show Act.put _ (some 29) _ = _
      simp only [Act.put, List.setIfInBounds_toArray, List.set_cons_zero, List.set_cons_succ, i64_w, i32_w]
      rfl
    refine one_ (i := 11) (N := some 34) #[true, true, true, true, true, true, true, true, true, true, true, true, false, false] rfl rfl (by kernel_rfl) (by decide) (fun K hK => ?_)
    refine goes_ Tryd.func18 (by kernel_rfl) rfl #[.slice A5 (m - k) (c - k), .string n] (by rfl) rfl rfl (by simp only [List.map_toArray, List.map_cons, List.map_nil]; rfl) ?_
    with_reducible refine (hdrop _ HB.out).mono ?_
    rintro e w4 ⟨v34, rfl, ho34, hb⟩
    refine ⟨_, rfl, ?_⟩
    have n1_ := Aside0.mk (Kd.R_below HO29.out hb)
    clear HO29
    have HO29 := n1_
    have HO34 := Aside0.mk ho34
    obtain ⟨A34, c34, e34⟩ := Kd.R_slice ho34
    subst e34
    have n0_ := Aside0.mk (HB.out.trans (hb.mono HB.out.size))
    clear HB
    have HB := n0_
    clear hb
    clear ho34
    refine hK.out _ _ ⟨((HB.out.cell hfb).trans hf0), ((HB.out.cell hfb).trans hf1)⟩ (fun hHeld => ?_)
    clear hK K
    refine norm_ (a' := ?_) ?_ ?_
    rotate_left
    · show Act.put _ (some 34) _ = _
      simp only [Act.put, List.setIfInBounds_toArray, List.set_cons_zero, List.set_cons_succ, i64_w, i32_w]
      rfl
    refine one_ (i := 12) (N := some 35) #[true, true, true, true, true, true, true, true, true, true, true, true, true, false] rfl rfl (by kernel_rfl) (by decide) (fun K hK => ?_)
    refine Kd.R_append_rows_step kF (w0 := W1) W1.heap.size (by rfl) (.tmp 29) (.tmp 34) 22 32 (.agg #[.string ⟨#[]⟩, .string ⟨#[]⟩]) 32 rfl Tryd.underlying22 info32 rfl (by decide) (by omega) v29 (l.take k ++ [(⟨n, vv⟩ : Fld)]) (dropN n.data.toList (l.drop k)) A34 _ c34 (fun _ => True) (fun _ => False) rfl rfl HO29.out (Kd.R_reads' HO34.out).2.2 (fun _ _ h => h) (fun _ h => h.elim) (fun _ _ => trivial) HB.out HB.out.size HLEN.out ?_
    intro v35 w5 ho hb hg hat
    have HO35 := Aside0.mk ho
    have n0_ := Aside0.mk hb
    clear HB
    have HB := n0_
    clear ho hb hg hat
    refine hK.out _ _ ⟨((HB.out.cell hfb).trans hf0), ((HB.out.cell hfb).trans hf1)⟩ (fun hHeld => ?_)
    clear hK K
    refine norm_ (a' := ?_) ?_ ?_
    rotate_left
    · show Act.put _ (some 35) _ = _
      simp only [Act.put, List.setIfInBounds_toArray, List.set_cons_zero, List.set_cons_succ, i64_w, i32_w]
      rfl
    refine pure_ (i := 13) (N := some 6) (v := ?_) (a' := ?_) #[true, true, true, true, true, true, true, true, true, true, true, true, true, true] rfl rfl (by kernel_rfl) (fun _ _ _ h => h) (Or.inl ⟨by rfl, ?_⟩) ?_ ?_
    rotate_left
    · intro w'
      go_simp
      with_reducible rfl
    rotate_left
    · simp only [Act.put, List.setIfInBounds_toArray, List.set_cons_zero, List.set_cons_succ, i64_w, i32_w]
      rfl
    refine done_ (by kernel_rfl) ?_
    -- END REGION5
    go_wp2
    go_ret
    exact ⟨_, rfl, by rw [HFN.out]; exact Kd.R_lower HO35.out HB2.out.size, HB2.out.trans (HB.out.mono HB2.out.size)⟩
def query_Put.f (l0 : List Fld) (a1 a2 : ByteArray) : Option (List Fld) := if l0.length ≤ 1073741824 then some (putN a1 a2 l0) else none
theorem query_Put.calls (A0 : Option Addr) (c0 : Nat) (l0 : List Fld) (a1 a2 : ByteArray) (r : List Fld) (w : World) (hr0 : Kd.C kF w A0 l0.length l0) (hc0 : l0.length ≤ c0) (hT : UTabs w) (h : query_Put.f l0 a1 a2 = some r) :
    Calls Tryd.prog 16 #[.slice A0 l0.length c0, .string a1, .string a2] w fun e w' => ∃ v0_ : Value, e = .returned (v0_) ∧ Kd.R kF 32 w' w.heap.size (fun _ => True) v0_ r ∧ Below w.heap.size w w' := by
  unfold query_Put.f at h
  split at h
  · rename_i hs
    cases h
    exact qput_any A0 c0 l0 a1 a2 w hs hr0 hc0
  · cases h
end Go.Proofs.YtbcbmmlpgdndpaaDoor.Q
