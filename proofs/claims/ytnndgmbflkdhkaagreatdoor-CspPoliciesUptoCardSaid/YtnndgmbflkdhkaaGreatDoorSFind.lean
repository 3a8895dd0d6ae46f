/- csp.Find, slices.Clone of words: what they answer. -/
import Derived.Test.YtnndgmbflkdhkaaGreatDoorSFunc
import Derived.RegionTactic
import Derived.Deep.RegionWith
import Derived.Deep.RegionHeld
import Derived.WalkSpells
import Derived.Test.YtnndgmbflkdhkaaGreatDoorSSeq
import Derived.Test.YtnndgmbflkdhkaaGreatDoorSPort
set_option linter.unusedSimpArgs false
set_option linter.unusedVariables false
namespace Go.Proofs.YtnndgmbflkdhkaaGreatDoor.Q
open Go.RowKit Go.Proofs.YtnndgmbflkdhkaaGreatDoorW.PrintWords Go.Proofs.YtnndgmbflkdhkaaGreatDoorW.PrintLast Go.Proofs.YtnndgmbflkdhkaaGreatDoorW.PrintMore Go.Proofs.YtnndgmbflkdhkaaGreatDoor.P1 Go.Proofs.YtnndgmbflkdhkaaGreatDoor.R
theorem heap_newF (w : World) (o : Obj) : (w.alloc o).heap[w.heap.size]? = some o := by unfold World.alloc; exact Array.getElem?_push_size
set_option maxHeartbeats 4000000 in
set_option maxRecDepth 100000 in
theorem clone_calls (A : Option Addr) (c : Nat) (l : List ByteArray) (w : World) (hC : Kd.C Kd.string w A l.length l) (hc : l.length ≤ c) (hl : l.length ≤ 1048576) :
    Calls Tryz.prog 49 #[.slice A l.length c] w fun e w' => ∃ v, e = .returned v ∧ Kd.R Kd.string 9 w' w.heap.size (fun _ => True) v l ∧ Below w.heap.size w w' := by
  cases A with
  | none =>
    have h0 : l = [] := by
      cases l with
      | nil => rfl
      | cons x t =>
        obtain ⟨ad, he, _⟩ := hC.2.2 (by simp)
        cases he
    subst h0
    have heq := fun W => Lib.run_eql_slice_nil (P := Tryz.prog) W 33 9 none 0 c 0 0 Tryz.underlying33
    go_enter Tryz.func49, Tryz.ntmps49
    go_wp2
    go_ret
    exact ⟨_, rfl, Kd.R_nil _ _ _ _ _, Below.refl _ _⟩
  | some ad =>
    have HC := Lib.hid hC
    clear hC
    generalize hnl : l.length = n at HC hc hl ⊢
    have HO : Hid ((w.alloc (.cells #[] 9)).ownsRow w.heap.size 9 1 (.slice (some ⟨w.heap.size, 0, none⟩) 0 0) 0 []) := Lib.hid ⟨rfl, .inr ⟨w.heap.size, 0, #[], rfl, Nat.le_refl _, heap_newF _ _, Nat.le_refl _, by unfold maxLen; omega, by simp⟩⟩
    have HB : Hid (Below w.heap.size w (w.alloc (.cells #[] 9))) := Lib.hid ((Below.refl _ _).alloc (Nat.le_refl _) _)
    have HCL : ∀ j u, (l.map Value.string)[j]? = some u → (w.alloc (.cells #[] 9)).cell? (ad.add j) = some u := fun j u hj => by
      rw [List.getElem?_map] at hj
      cases hx : l[j]? with
      | none => rw [hx] at hj; cases hj
      | some x =>
        rw [hx] at hj
        obtain rfl : Value.string x = u := Option.some.inj hj
        have hjl : j < n := by rw [← hnl]; exact (List.getElem?_eq_some_iff.1 hx).1
        obtain ⟨ad', he, hcell⟩ := HC.out.2.2 (by omega)
        cases he
        obtain ⟨cs, hcl, hK, hcc⟩ := hcell j x hx
        have hcs : cs = [.string x] := hK
        subst hcs
        have k0 : w.cell? (ad.add j) = some (.string x) := by have := hcc 0 _ rfl; rwa [show j * Kd.string.sz + 0 = j from by show j * 1 + 0 = j; omega] at this
        rw [((Below.refl w.heap.size w).alloc (Nat.le_refl _) _).cell (World.block_lt_of_cell? _ _ k0)]
        exact k0
    obtain ⟨i0, hi0, hz0, hz1, hz2⟩ := info_parts info9
    have HL := Lib.hid HCL
    have HLN := Lib.hid (show (l.map Value.string).length = n * 1 by rw [List.length_map, hnl]; omega)
    have heq := fun W => Lib.run_eql_slice_nil (P := Tryz.prog) W 33 9 (some ad) n c 0 0 Tryz.underlying33
    clear HCL
    refine (callsIn_wide (n := 5)).1 ?_
    refine callsIn_of_wp Tryz.func49 rfl trivial ?_
    simp only [Tryz.ntmps49, List.size_toArray, List.length_cons, List.length_nil, Nat.reduceAdd, Nat.reduceSub, Array.replicate_succ, Array.replicate_zero, List.push_toArray, List.append_toArray, List.nil_append, List.cons_append]
    gi_wp2_with (gi_at_builtin; refine wpListIn_append_own _ rfl _ _ 33 rfl w.heap.size 9 i0 (.string ⟨#[]⟩) 1 16 Tryz.underlying33 hi0 hz0 hz1 hz2 rfl (by decide) _ _ _ rfl HO.out ad n c (l.map Value.string) rfl HLN.out HL.out (by intro u hu; obtain ⟨x, _, rfl⟩ := List.mem_map.1 hu; rfl) (by unfold maxLen; omega) (by omega) HB.out.size ?_; intro v' w1 hown' hgrow _)
    go_ret
    have hown2 : w1.ownsRow w.heap.size 9 1 v' l.length (l.map Value.string) := by rw [hnl]; simpa using hown'
    exact ⟨_, rfl, Kd.R_of_own hown2 (fun _ _ => trivial), HB.out.grown hgrow HB.out.size (fun k e => by cases e; exact Nat.le_refl _)⟩
/-- what csp.Find answers -/
def findF (l : List S35) (name : ByteArray) : ByteArray × List ByteArray × Bool := match l.find? (fun d => d.f0.toList == name.toList) with
  | some d => (d.f0, d.f1, true)
  | none => (⟨#[]⟩, [], false)
theorem find_hit (l : List S35) (name : ByteArray) (r : Int) (h : hitAt (fun j => (rd_T35 l j).f0.toList == name.toList) l.length r) :
    (r = -1 ∧ findF l name = (⟨#[]⟩, [], false)) ∨ ∃ k : Nat, r = k ∧ k < l.length ∧ findF l name = ((rd_T35 l k).f0, (rd_T35 l k).f1, true) := by
  have hr : ∀ j (hj : j < l.length), rd_T35 l (j : Int) = l[j] := fun j hj => by
    unfold rd_T35
    simp [List.getD_eq_getElem?_getD, hj]
  rcases h with ⟨h1, h2⟩ | ⟨k, h1, h2, h3, h4⟩
  · refine .inl ⟨h1, ?_⟩
    have : l.find? (fun d => d.f0.toList == name.toList) = none := List.find?_eq_none.2 (fun d hd => by
      obtain ⟨j, hj, rfl⟩ := List.mem_iff_getElem.1 hd
      have := h2 j hj
      simp only [hr j hj] at this
      rw [this]; decide)
    unfold findF
    rw [this]
  · refine .inr ⟨k, h1, h2, ?_⟩
    have : l.find? (fun d => d.f0.toList == name.toList) = some l[k] := by
      rw [List.find?_eq_some_iff_getElem]
      refine ⟨by have := h3; simp only [hr k h2] at this; exact this, k, h2, rfl, fun j hj => ?_⟩
      have := h4 j hj
      simp only [hr j (by omega)] at this
      rw [this]; rfl
    unfold findF
    rw [this, hr k h2]
set_option maxHeartbeats 8000000 in
set_option maxRecDepth 100000 in
theorem find_any (A : Option Addr) (c : Nat) (l : List S35) (rep : Bool) (name : ByteArray) (w : World) (hn : l.length ≤ 1048576) (hv : ∀ d ∈ l, d.f1.length ≤ 1048576) (hC : Kd.C k35 w A l.length l) (hc : l.length ≤ c) :
    Calls Tryz.prog 22 #[.agg #[.slice A l.length c, .bool rep], .string name] w fun e w' => ∃ v, e = .returned (.tuple #[.agg #[.string (findF l name).1, v], .bool (findF l name).2.2]) ∧ Kd.R Kd.string 9 w' w.heap.size (fun _ => True) v (findF l name).2.1 ∧ Below w.heap.size w w' := by
  have HC := Lib.hid hC
  have HV := Lib.hid hv
  clear hC hv
  generalize hnl : l.length = n at HC hc hn ⊢
  have HN := Lib.hid hnl
  clear hnl
  go_enter Tryz.func22, Tryz.ntmps22
  go_wp2_with fail
  obtain ⟨W1, hW1⟩ : ∃ W1, W1 = (w.alloc (.cells #[.slice A n c, .bool rep] 25)).alloc (.cells #[.string ⟨#[]⟩, .slice none 0 0] 35) := ⟨_, rfl⟩
  rw [← hW1]
  have P0 : W1.heap[w.heap.size]? = some (.cells #[.slice A n c, .bool rep] 25 (0, 0)) := by rw [hW1, Below.heap_alloc _ _ _ (by simp)]; exact heap_newF _ _
  have P1 : W1.heap[w.heap.size + 1]? = some (.cells #[.string ⟨#[]⟩, .slice none 0 0] 35 (0, 0)) := by rw [hW1]; have := heap_newF (w.alloc (.cells #[.slice A n c, .bool rep] 25)) (.cells #[.string ⟨#[]⟩, .slice none 0 0] 35); rwa [World.size_alloc] at this
  have B1 : Below w.heap.size w W1 := by rw [hW1]; exact ((Below.refl _ _).alloc (Nat.le_refl _) _).alloc (by simp) _
  clear hW1
  have mk : ∀ W', Below W1.heap.size W1 W' → W'.cell? ⟨w.heap.size, 0, none⟩ = some (.slice A n c) ∧ Hid (Below W1.heap.size W1 W') := fun W' h => ⟨by rw [Lib.cell_of_heap (blk_keep P0 h)]; rfl, Lib.hid h⟩
  have hnm : ∀ W', Hid (Below W1.heap.size W1 W') → Calls Tryz.prog 35 #[.string name] W' fun e W6 => ∃ b, e = .returned (.func (.func 57) #[] #[.pointer (some ⟨b, 0, none⟩)]) ∧ Hid (W6.cell? ⟨b, 0, none⟩ = some (.string name)) ∧ W6.cell? ⟨w.heap.size, 0, none⟩ = some (.slice A n c) ∧ Hid (Below W1.heap.size W1 W6) := fun W' hW =>
    (named_calls name W').mono (by
      rintro e W6 ⟨rfl, rfl⟩
      exact ⟨_, rfl, Lib.hid (by rw [Lib.cell_of_heap (heap_newF _ _)]; rfl), mk _ (hW.out.alloc hW.out.size _)⟩)
  have hix : ∀ (W' : World) (b : Nat), Hid (Below W1.heap.size W1 W') → W'.cell? ⟨b, 0, none⟩ = some (.string name) → Calls Tryz.prog 48 #[.slice A n c, .func (.func 57) #[] #[.pointer (some ⟨b, 0, none⟩)]] W' fun e W6 => ∃ r, e = .returned (.int .i64 r) ∧ Hid (hitAt (fun j => (rd_T35 l j).f0.toList == name.toList) n r) ∧ W6.cell? ⟨w.heap.size, 0, none⟩ = some (.slice A n c) ∧ Hid (Below W1.heap.size W1 W6) := fun W' b hW hb => by
    have hC' : Kd.C k35 W' A l.length l := by rw [HN.out]; exact Kd.C_below HC.out (B1.trans (hW.out.mono B1.size))
    have := dirIdx_calls A c l (fun z => z.toList == name.toList) 57 #[.pointer (some ⟨b, 0, none⟩)] (enters_of Tryz.func57 (by kernel_rfl) rfl) W' (by rw [HN.out]; omega) hC'
      (fun W2 z v h2 => named1_calls z name v b W2 (pw_cell_below h2 hb))
    rw [HN.out] at this
    refine this.mono ?_
    rintro e W6 ⟨r, rfl, h1, h⟩
    exact ⟨r, rfl, Lib.hid h1, mk W6 (hW.out.trans (h.mono hW.out.size))⟩
  refine wp_region_held_drew (S := (fun W' => W'.cell? ⟨w.heap.size, 0, none⟩ = some (.slice A n c) ∧ Hid (Below W1.heap.size W1 W'))) (by kernel_rfl) (mk _ ((Below.refl _ W1).drew)) (fun hHeld => ?_)
  generalize W1.drew = W1d at hHeld ⊢
  refine wpAnyH_take (i := 0) (oi := (⟨some 8, .fieldAddr 25 (.tmp 2) 0, 0, "csp.go:97", #[], none⟩ : Oper)) (v := (.pointer (some ⟨w.heap.size, 0, none⟩))) rfl (by kernel_rfl) (by kernel_rfl) (by kernel_rfl) (fun _ _ _ h => h) (Or.inl ⟨by rfl, ?_⟩) hHeld ?_
  · (intro W9 hSw; obtain ⟨z1, z2⟩ := hSw; clear hHeld; first | (go_simp; done) | (go_simp; with_reducible rfl))
  try simp only [Act.put, List.setIfInBounds_toArray, List.set_cons_zero, List.set_cons_succ]
  refine wpAnyH_take (i := 1) (oi := (⟨some 9, .load 23 (.tmp 8), 23, "csp.go:97", #[⟨0, .data⟩], none⟩ : Oper)) (v := (.slice A n c)) rfl (by kernel_rfl) (by kernel_rfl) (by kernel_rfl) (fun _ _ _ h => h) (Or.inl ⟨by rfl, ?_⟩) hHeld ?_
  · (intro W9 hSw; obtain ⟨z1, z2⟩ := hSw; clear hHeld; first | (go_simp; done) | (go_simp; with_reducible rfl))
  try simp only [Act.put, List.setIfInBounds_toArray, List.set_cons_zero, List.set_cons_succ]
  refine wpAnyH_take (i := 2) (oi := (⟨some 10, .move (.tmp 1), 9, "csp.go:97", #[], none⟩ : Oper)) (v := (.string name)) rfl (by kernel_rfl) (by kernel_rfl) (by kernel_rfl) (fun _ _ _ h => h) (Or.inl ⟨by rfl, ?_⟩) hHeld ?_
  · (intro W9 hSw; obtain ⟨z1, z2⟩ := hSw; clear hHeld; first | (go_simp; done) | (go_simp; with_reducible rfl))
  try simp only [Act.put, List.setIfInBounds_toArray, List.set_cons_zero, List.set_cons_succ]
  refine wpAnyH_ready (rs := [3]) (by kernel_rfl) (by simp) (AllReadyH.cons rfl (fun K hK => ?_) AllReadyH.nil)
  go_simp
  refine (hnm _ hHeld.2).mono ?_
  rintro e W6 ⟨b, rfl, hbc, hS6⟩
  refine hK.out _ _ hS6 (fun hHeld => ?_)
  clear hK hS6
  try simp only [Act.put, List.setIfInBounds_toArray, List.set_cons_zero, List.set_cons_succ]
  refine wpAnyH_ready (rs := [4]) (by kernel_rfl) (by simp) (AllReadyH.cons rfl (fun K hK => ?_) AllReadyH.nil)
  go_simp
  refine (hix _ b hHeld.2 hbc.out).mono ?_
  rintro e W7 ⟨r, rfl, hit, hS7⟩
  refine hK.out _ _ hS7 (fun hHeld => ?_)
  clear hK hbc hnm hix
  try simp only [Act.put, List.setIfInBounds_toArray, List.set_cons_zero, List.set_cons_succ]
  refine wpAnyH_take (i := 5) (oi := (⟨some 6, .assign (.tmp 12), 3, "csp.go:97", #[⟨4, .data⟩, ⟨4, .chain⟩, ⟨0, .phase⟩, ⟨1, .phase⟩, ⟨2, .phase⟩, ⟨3, .phase⟩, ⟨4, .phase⟩], none⟩ : Oper)) (v := (.int .i64 r)) rfl (by kernel_rfl) (by kernel_rfl) (by kernel_rfl) (fun _ _ _ h => h) (Or.inl ⟨by rfl, ?_⟩) hHeld ?_
  · (intro W9 hSw; obtain ⟨z1, z2⟩ := hSw; clear hHeld; first | (go_simp; done) | (go_simp; with_reducible rfl))
  try simp only [Act.put, List.setIfInBounds_toArray, List.set_cons_zero, List.set_cons_succ]
  refine wpAnyH_done (by kernel_rfl) ?_ _
  obtain ⟨c7, hb7⟩ := hHeld
  have Q0 := blk_keep P0 hb7.out
  have Q1 := blk_keep P1 hb7.out
  have B7 := B1.trans (hb7.out.mono B1.size)
  have hit2 := hit.out
  rw [← HN.out] at hit2
  have x10 : W7.cell? ⟨w.heap.size + 1, 0, none⟩ = some (.string ⟨#[]⟩) := by rw [Lib.cell_of_heap Q1]; rfl
  have x11 : W7.cell? ⟨w.heap.size + 1, 1, none⟩ = some (.slice none 0 0) := by rw [Lib.cell_of_heap Q1]; rfl
  have y10 : W7.frozen? ⟨w.heap.size + 1, 0, none⟩ = false := by simp [World.frozen?, Q1]
  have y11 : W7.frozen? ⟨w.heap.size + 1, 1, none⟩ = false := by simp [World.frozen?, Q1]
  have HQ := Lib.hid (And.intro Q0 (And.intro Q1 B7))
  clear P0 P1 B1 mk Q0 Q1 B7 hit
  rcases find_hit l name r hit2 with ⟨rfl, hf⟩ | ⟨k, rfl, hk, hf⟩
  · have HF := Lib.hid hf
    clear hf hit2
    go_wp2_with fail
    obtain ⟨Q0, Q1, B7⟩ := HQ.out
    refine bodyPost_ret (results_ct rfl _ _ (w.heap.size + 1) 35 #[.string ⟨#[]⟩, .slice none 0 0] (0, 0) _ rfl (by rw [setCell_blk (j := 1) _ (setCell_blk (j := 0) _ Q1)]; rfl) Tryz.underlying35 rfl (by kernel_rfl)) rfl ?_
    rw [HF.out]
    exact ⟨_, rfl, Kd.R_nil _ _ _ _ _, (B7.setCell (p := ⟨w.heap.size + 1, 0, none⟩) (by show _ ≤ w.heap.size + 1; omega) _).setCell (p := ⟨w.heap.size + 1, 1, none⟩) (by show _ ≤ w.heap.size + 1; omega) _⟩
  · have HF := Lib.hid hf
    have hk' : k < n := by rw [← HN.out]; exact hk
    obtain ⟨ad, A1, c1, rfl, k0, k1, hl1, hC1⟩ := at_T35 (Kd.C_below HC.out HQ.out.2.2) (k : Int) (by omega) (by omega)
    rw [Int.toNat_natCast] at k0 k1
    have hmem : rd_T35 l (k : Int) ∈ l := by unfold rd_T35; rw [List.getD_eq_getElem?_getD, Int.toNat_natCast, List.getElem?_eq_getElem hk]; exact List.getElem_mem _
    have hvl := HV.out _ hmem
    clear hf hit2 hmem
    generalize rd_T35 l (k : Int) = d at k0 k1 hl1 hC1 hvl HF
    obtain ⟨dx, dv⟩ := d
    simp only at k0 k1 hl1 hC1 hvl HF
    have HC1 := Lib.hid hC1
    clear hC1
    have hkz : ¬ ((k : Int) < 0) := by omega
    go_wp2_with fail
    obtain ⟨W8, hW8⟩ : ∃ W8, W8 = W7.alloc (.cells #[.string dx, .slice A1 dv.length c1] 35) := ⟨_, rfl⟩
    rw [← hW8]
    have P8 : W8.heap[W7.heap.size]? = some (.cells #[.string dx, .slice A1 dv.length c1] 35 (0, 0)) := by rw [hW8]; exact heap_newF _ _
    have B8 : Below W7.heap.size W7 W8 := by rw [hW8]; exact (Below.refl _ _).alloc (Nat.le_refl _) _
    have B8w := HQ.out.2.2.trans (B8.mono HQ.out.2.2.size)
    have Q8 := blk_keep HQ.out.2.1 B8
    have HC8 := Lib.hid (Kd.C_below HC1.out B8)
    clear hW8
    have hne : w.heap.size + 1 < W7.heap.size := blk_lt0 HQ.out.2.1
    generalize W7.heap.size = eB at P8 hne ⊢
    have mk : ∀ W', Below W8.heap.size W8 W' → W'.cell? ⟨eB, 0, none⟩ = some (.string dx) ∧ W'.cell? ⟨eB, 1, none⟩ = some (.slice A1 dv.length c1) := fun W' h => ⟨by rw [Lib.cell_of_heap (blk_keep P8 h)]; rfl, by rw [Lib.cell_of_heap (blk_keep P8 h)]; rfl⟩
    have hcl : ∀ W', Hid (Below W8.heap.size W8 W') → Calls Tryz.prog 49 #[.slice A1 dv.length c1] W' fun e W6 => ∃ Ao co, e = .returned (.slice Ao dv.length co) ∧ Hid (Kd.R Kd.string 9 W6 W8.heap.size (fun _ => True) (.slice Ao dv.length co) dv) ∧ Hid (Below W8.heap.size W8 W6) := fun W' hW =>
      (clone_calls A1 c1 dv W' (Kd.C_below HC8.out hW.out) hl1 hvl).mono (by
        rintro e W6 ⟨v, rfl, h1, h2⟩
        obtain ⟨Ao, co, rfl⟩ := Kd.R_slice h1
        exact ⟨Ao, co, rfl, Lib.hid (Kd.R_lower h1 hW.out.size), Lib.hid (hW.out.trans (h2.mono hW.out.size))⟩)
    refine wp_region_held_drew (S := (fun W' => W'.cell? ⟨eB, 0, none⟩ = some (.string dx) ∧ W'.cell? ⟨eB, 1, none⟩ = some (.slice A1 dv.length c1))) (by kernel_rfl) (mk _ ((Below.refl _ W8).drew)) (fun hHeld => ?_)
    have HB8d := Lib.hid ((Below.refl W8.heap.size W8).drew)
    generalize W8.drew = W8d at hHeld HB8d ⊢
    refine wpAnyH_take (i := 0) (oi := (⟨some 21, .fieldAddr 35 (.tmp 7) 0, 0, "csp.go:102", #[], none⟩ : Oper)) (v := (.pointer (some ⟨eB, 0, none⟩))) rfl (by kernel_rfl) (by kernel_rfl) (by kernel_rfl) (fun _ _ _ h => h) (Or.inl ⟨by rfl, ?_⟩) hHeld ?_
    · (intro W9 hSw; obtain ⟨z1, z2⟩ := hSw; clear hHeld; first | (go_simp; done) | (go_simp; with_reducible rfl))
    try simp only [Act.put, List.setIfInBounds_toArray, List.set_cons_zero, List.set_cons_succ]
    refine wpAnyH_take (i := 1) (oi := (⟨some 22, .load 9 (.tmp 21), 9, "csp.go:102", #[⟨0, .data⟩], none⟩ : Oper)) (v := (.string dx)) rfl (by kernel_rfl) (by kernel_rfl) (by kernel_rfl) (fun _ _ _ h => h) (Or.inl ⟨by rfl, ?_⟩) hHeld ?_
    · (intro W9 hSw; obtain ⟨z1, z2⟩ := hSw; clear hHeld; first | (go_simp; done) | (go_simp; with_reducible rfl))
    try simp only [Act.put, List.setIfInBounds_toArray, List.set_cons_zero, List.set_cons_succ]
    refine wpAnyH_take (i := 2) (oi := (⟨some 23, .fieldAddr 35 (.tmp 7) 1, 0, "csp.go:102", #[], none⟩ : Oper)) (v := (.pointer (some ⟨eB, 1, none⟩))) rfl (by kernel_rfl) (by kernel_rfl) (by kernel_rfl) (fun _ _ _ h => h) (Or.inl ⟨by rfl, ?_⟩) hHeld ?_
    · (intro W9 hSw; obtain ⟨z1, z2⟩ := hSw; clear hHeld; first | (go_simp; done) | (go_simp; with_reducible rfl))
    try simp only [Act.put, List.setIfInBounds_toArray, List.set_cons_zero, List.set_cons_succ]
    refine wpAnyH_take (i := 3) (oi := (⟨some 24, .load 33 (.tmp 23), 33, "csp.go:102", #[⟨2, .data⟩], none⟩ : Oper)) (v := (.slice A1 dv.length c1)) rfl (by kernel_rfl) (by kernel_rfl) (by kernel_rfl) (fun _ _ _ h => h) (Or.inl ⟨by rfl, ?_⟩) hHeld ?_
    · (intro W9 hSw; obtain ⟨z1, z2⟩ := hSw; clear hHeld; first | (go_simp; done) | (go_simp; with_reducible rfl))
    try simp only [Act.put, List.setIfInBounds_toArray, List.set_cons_zero, List.set_cons_succ]
    refine wpAnyH_ready (rs := [4]) (by kernel_rfl) (by simp) (AllReadyH.cons rfl (fun K hK => ?_) AllReadyH.nil)
    go_simp
    refine (hcl _ HB8d).mono ?_
    rintro e W9 ⟨Ao, co, rfl, HR9, HB9⟩
    refine hK.out _ _ (mk W9 HB9.out) (fun hHeld => ?_)
    clear hK hcl
    try simp only [Act.put, List.setIfInBounds_toArray, List.set_cons_zero, List.set_cons_succ]
    refine wpAnyH_take (i := 5) (oi := (⟨some 26, .build 35 #[(0, .tmp 22), (1, .tmp 25)], 35, "csp.go:102", #[⟨1, .data⟩, ⟨4, .data⟩], none⟩ : Oper)) (v := (.agg #[.string dx, .slice Ao dv.length co])) rfl (by kernel_rfl) (by kernel_rfl) (by kernel_rfl) (fun _ _ _ h => h) (Or.inl ⟨by rfl, ?_⟩) hHeld ?_
    · (intro W9 hSw; obtain ⟨z1, z2⟩ := hSw; clear hHeld; first | (go_simp; done) | (go_simp; with_reducible rfl))
    try simp only [Act.put, List.setIfInBounds_toArray, List.set_cons_zero, List.set_cons_succ]
    have Q9 := blk_keep Q8 HB9.out
    have x10 : W9.cell? ⟨w.heap.size + 1, 0, none⟩ = some (.string ⟨#[]⟩) := by rw [Lib.cell_of_heap Q9]; rfl
    have x11 : W9.cell? ⟨w.heap.size + 1, 1, none⟩ = some (.slice none 0 0) := by rw [Lib.cell_of_heap Q9]; rfl
    have y10 : W9.frozen? ⟨w.heap.size + 1, 0, none⟩ = false := by simp [World.frozen?, Q9]
    have y11 : W9.frozen? ⟨w.heap.size + 1, 1, none⟩ = false := by simp [World.frozen?, Q9]
    refine wpAnyH_ready (rs := [6]) (by kernel_rfl) (by simp) (AllReadyH.cons rfl (fun K hK => ?_) AllReadyH.nil)
    go_simp
    refine hK.out _ _ ⟨?_, ?_⟩ (fun hHeld => ?_)
    · rw [cell_far (by show eB ≠ w.heap.size + 1; omega), cell_far (by show eB ≠ w.heap.size + 1; omega)]; exact hHeld.1
    · rw [cell_far (by show eB ≠ w.heap.size + 1; omega), cell_far (by show eB ≠ w.heap.size + 1; omega)]; exact hHeld.2
    clear hK x10 x11 y10 y11
    try simp only [Act.put, List.setIfInBounds_toArray, List.set_cons_zero, List.set_cons_succ]
    refine wpAnyH_take (i := 7) (oi := (⟨some 5, .assign (.const (.bool true)), 4, "csp.go:102", #[⟨6, .chain⟩, ⟨0, .phase⟩, ⟨1, .phase⟩, ⟨2, .phase⟩, ⟨3, .phase⟩, ⟨4, .phase⟩, ⟨5, .phase⟩, ⟨6, .phase⟩], none⟩ : Oper)) (v := (.bool true)) rfl (by kernel_rfl) (by kernel_rfl) (by kernel_rfl) (fun _ _ _ h => h) (Or.inl ⟨by rfl, ?_⟩) hHeld ?_
    · (intro W9 hSw; obtain ⟨z1, z2⟩ := hSw; clear hHeld; first | (go_simp; done) | (go_simp; with_reducible rfl))
    try simp only [Act.put, List.setIfInBounds_toArray, List.set_cons_zero, List.set_cons_succ]
    refine wpAnyH_done (by kernel_rfl) ?_ _
    go_wp2_with fail
    have B9w := B8w.trans (HB9.out.mono B8w.size)
    refine bodyPost_ret (results_ct rfl _ _ (w.heap.size + 1) 35 #[.string dx, .slice Ao dv.length co] (0, 0) _ rfl (by rw [setCell_blk (j := 1) _ (setCell_blk (j := 0) _ Q9)]; rfl) Tryz.underlying35 rfl (by kernel_rfl)) rfl ?_
    rw [HF.out]
    refine ⟨_, rfl, ?_, (B9w.setCell (p := ⟨w.heap.size + 1, 0, none⟩) (by show _ ≤ w.heap.size + 1; omega) _).setCell (p := ⟨w.heap.size + 1, 1, none⟩) (by show _ ≤ w.heap.size + 1; omega) _⟩
    exact Kd.R_set (Kd.R_set (Kd.R_lower HR9.out B8w.size) Q9 (by intro q hq; simp [Kd.string, Kd.scalar] at hq; subst hq; decide) 0 _) (blk_set Q9 0 _) (by intro q hq; simp [Kd.string, Kd.scalar] at hq; subst hq; decide) 1 _
def csp_Find.f (l0_0 : List S35) (a0_1 : Bool) (a1 : ByteArray) : Option (ByteArray × List ByteArray × Bool) := if l0_0.length ≤ 1048576 ∧ (l0_0.all fun d => decide (d.f1.length ≤ 1048576)) = true then some (findF l0_0 a1) else none
theorem csp_Find.calls (A0_0 : Option Addr) (c0_0 : Nat) (l0_0 : List S35) (a0_1 : Bool) (a1 : ByteArray) (r1 : ByteArray) (r2 : List ByteArray) (r3 : Bool) (w : World) (hr0_0 : Kd.C k35 w A0_0 l0_0.length l0_0) (hc0_0 : l0_0.length ≤ c0_0) (h : csp_Find.f l0_0 a0_1 a1 = some (r1, r2, r3)) :
    Calls Tryz.prog 22 #[.agg #[.slice A0_0 l0_0.length c0_0, .bool a0_1], .string a1] w fun e w' => ∃ v1_ : Value, e = .returned (.tuple #[.agg #[.string r1, v1_], .bool r3]) ∧ Kd.R Kd.string 9 w' w.heap.size (fun _ => True) v1_ r2 ∧ Below w.heap.size w w' := by
  unfold csp_Find.f at h
  split at h
  · rename_i hs
    have h := Option.some.inj h
    have := find_any A0_0 c0_0 l0_0 a0_1 a1 w hs.1 (fun d hd => of_decide_eq_true (List.all_eq_true.1 hs.2 d hd)) hr0_0 hc0_0
    rw [h] at this
    exact this
  · cases h
end Go.Proofs.YtnndgmbflkdhkaaGreatDoor.Q
