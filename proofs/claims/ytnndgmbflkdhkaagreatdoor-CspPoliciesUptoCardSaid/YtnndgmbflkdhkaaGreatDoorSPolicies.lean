/- CspPolicies, walked: on the way where every comparison holds. -/
import Derived.Test.YtnndgmbflkdhkaaGreatDoorSB10
import Derived.Test.YtnndgmbflkdhkaaGreatDoorSRefT
import Derived.Test.YtnndgmbflkdhkaaGreatDoorSB12
import Derived.Test.YtnndgmbflkdhkaaGreatDoorSLives
set_option linter.unusedSimpArgs false
set_option linter.unusedVariables false
namespace Go.Proofs.YtnndgmbflkdhkaaGreatDoor.Q
open Go.RowKit Go.Proofs.YtnndgmbflkdhkaaGreatDoorW.PrintWords Go.Proofs.YtnndgmbflkdhkaaGreatDoorW.PrintLast Go.Proofs.YtnndgmbflkdhkaaGreatDoorW.PrintMore Go.Proofs.YtnndgmbflkdhkaaGreatDoor.P1
set_option maxHeartbeats 8000000 in
set_option maxRecDepth 100000 in
theorem policies_any (s : List UInt8) (A1 : Option Addr) (c1 : Nat) (L : List (List UInt8)) (l1 : List ByteArray) (hl1 : L.map B = l1) (rep : Bool) (A3 : Option Addr) (c3 : Nat) (ds : List S35) (r3 : Bool) (name : ByteArray) (w : World) (hT : UTabs w)
    (hs : s.length ≤ 1048576) (hL : ((L.map B).map fun s => s.size + 1).sum ≤ 1048576) (hds : Small ds) (hC1 : Kd.C Kd.string w A1 l1.length l1) (hc1 : l1.length ≤ c1) (hC3 : Kd.C k35 w A3 ds.length ds) (hc3 : ds.length ≤ c3) :
    Calls Tryz.prog 9 #[.string (B s), .slice A1 l1.length c1, .bool rep, .agg #[.slice A3 ds.length c3, .bool r3], .string name] w fun e w' => e = .returned (.bool true) ∧ Below w.heap.size w w' := by
  have hPa := pErr_f s rep
  have hPb : bastionref14_Parse.f (B s) rep = some ((pErr s).2, (if (pErr s).1 = 0 then rep else false), (pErr s).1) := hPa
  have hSame := good_same2 (pErr_good s) (if (pErr s).1 = 0 then rep else false) 300 (by omega)
  generalize (pErr s).2 = pd at hPa hPb hSame
  generalize (if (pErr s).1 = 0 then rep else false) = pb at hPa hPb hSame
  generalize (pErr s).1 = pe at hPa hPb
  have hHa := header_f L rep (by omega)
  have hHb := refHeader_f L rep hL 4300001 (by omega)
  obtain ⟨hg1, hg2⟩ := headF_good rep L
  have hAll := sameAll_refl (headF rep L).1 (by omega) hg2 400 (by omega)
  obtain ⟨hq, he, hhe⟩ : ∃ a b, headF rep L = (a, b) := ⟨_, _, rfl⟩
  rw [hhe] at hHa hHb hAll
  rw [hl1] at hHa hHb
  clear hl1 hL
  simp only at hAll
  clear hg1 hg2 hhe
  have hTa := text_any ds hds r3 100 (by omega)
  have hTb := textR ds r3 (fun d hd => List.all_eq_true.1 hds.all d hd) 1100001 (by omega)
  obtain ⟨tx, te, hte⟩ : ∃ a b, (if okAt ds ds.length then (B (textL ds), (0 : Int)) else (⟨#[]⟩, 20)) = (a, b) := ⟨_, _, rfl⟩
  rw [hte] at hTa hTb
  clear hte
  have hCk : csp_Check.f ds r3 = some (if okAt ds ds.length then 0 else 20) := by unfold csp_Check.f; rw [if_pos ⟨hds.1, hds.all⟩]
  have hCr := checkR ds r3 (fun d hd => List.all_eq_true.1 hds.all d hd) 1100001 (by omega)
  generalize (if okAt ds ds.length then (0 : Int) else 20) = ck at hCk hCr
  have hFa := find_f ds hds r3 name
  have hFb := findR ds r3 name hds.1 (fun d hd => (hds.2 d hd).2.1) 1048600 (by have := hds.1; omega)
  have hfl := find_len ds hds name
  obtain ⟨f1, f2, f3, hff⟩ : ∃ a b c, findF ds name = (a, b, c) := ⟨_, _, _, rfl⟩
  rw [hff] at hFa hFb hfl
  simp only at hfl
  have hDir := sameDir_refl f1 f2 hfl 1048600 (by omega)
  have HC1 := Lib.hid hC1
  have HC3 := Lib.hid hC3
  have HT := Lib.hid hT
  have HPa := Lib.hid hPa
  have HPb := Lib.hid hPb
  have HHa := Lib.hid hHa
  have HHb := Lib.hid hHb
  have HTa := Lib.hid hTa
  have HTb := Lib.hid hTb
  have HCk := Lib.hid hCk
  have HCr := Lib.hid hCr
  have HFa := Lib.hid hFa
  have HFb := Lib.hid hFb
  have HS := Lib.hid (And.intro hSame (And.intro hAll hDir))
  have HDS := Lib.hid hds
  clear hC1 hC3 hT hPa hPb hHa hHb hTa hTb hCk hCr hFa hFb hSame hAll hDir hds hff hfl
  go_enter Tryz.func9, Tryz.ntmps9
  go_wp2_with fail
  obtain ⟨W0, hW0⟩ : ∃ W0, W0 = w.alloc (.cells #[.slice A3 ds.length c3, .bool r3] 25) := ⟨_, rfl⟩
  rw [← hW0]
  have P0 : W0.heap[w.heap.size]? = some (.cells #[.slice A3 ds.length c3, .bool r3] 25 (0, 0)) := by rw [hW0]; exact heap_newF _ _
  have B0 := Lib.hid (show Below w.heap.size w W0 by rw [hW0]; exact (Below.refl _ _).alloc (Nat.le_refl _) _)
  clear hW0
  refine (csp_Parse.calls (B s) rep pd pb pe _ HPa.out).mono ?_
  rintro e W1 ⟨v1, rfl, hN1, hb1⟩
  obtain ⟨Aa, ca, rfl⟩ := Kd.N_slice hN1
  have CA1 := Lib.hid (Kd.N_reads' hN1).2.2
  have la := (Kd.N_reads' hN1).2.1
  have P1 := blk_keep P0 hb1
  have B1 := Lib.hid (B0.out.trans (hb1.mono B0.out.size))
  clear hN1 hb1 P0
  go_wp2_with fail
  obtain ⟨W1', hW1⟩ : ∃ W1', W1' = W1.alloc (.cells #[.slice Aa pd.length ca, .bool pb] 25) := ⟨_, rfl⟩
  rw [← hW1]
  have hb1' : Below W1.heap.size W1 W1' := by rw [hW1]; exact (Below.refl _ _).alloc (Nat.le_refl _) _
  have QA1 : W1'.heap[W1.heap.size]? = some (.cells #[.slice Aa pd.length ca, .bool pb] 25 (0, 0)) := by rw [hW1]; exact heap_newF _ _
  have P1' := blk_keep P1 hb1'
  have CA1' := Lib.hid (Kd.C_below CA1.out hb1')
  have B1' := Lib.hid (B1.out.trans (hb1'.mono B1.out.size))
  clear hW1 hb1' P1 CA1 B1
  generalize W1.heap.size = eA at *
  refine (bastionref14_Parse.calls (B s) rep pd pb pe _ HPb.out).mono ?_
  rintro e W2 ⟨v2, rfl, hN2, hb2⟩
  obtain ⟨Ab, cb, rfl⟩ := Kd.N_slice hN2
  have CB2 := Lib.hid (Kd.N_reads' hN2).2.2
  have lb := (Kd.N_reads' hN2).2.1
  have P2 := blk_keep P1' hb2
  have QA2 := blk_keep QA1 hb2
  have CA2 := Lib.hid (Kd.C_below CA1'.out hb2)
  have B2 := Lib.hid (B1'.out.trans (hb2.mono B1'.out.size))
  clear hN2 hb2 P1' QA1 CA1' B1'
  go_wp2_with fail
  obtain ⟨W2', hW2⟩ : ∃ W2', W2' = W2.alloc (.cells #[.slice Ab pd.length cb, .bool pb] 25) := ⟨_, rfl⟩
  rw [← hW2]
  have hb2' : Below W2.heap.size W2 W2' := by rw [hW2]; exact (Below.refl _ _).alloc (Nat.le_refl _) _
  have QB2 : W2'.heap[W2.heap.size]? = some (.cells #[.slice Ab pd.length cb, .bool pb] 25 (0, 0)) := by rw [hW2]; exact heap_newF _ _
  have P2' := blk_keep P2 hb2'
  have QA2' := blk_keep QA2 hb2'
  have CA2' := Lib.hid (Kd.C_below CA2.out hb2')
  have CB2' := Lib.hid (Kd.C_below CB2.out hb2')
  have B2' := Lib.hid (B2.out.trans (hb2'.mono B2.out.size))
  clear hW2 hb2' P2 QA2 CA2 CB2 B2
  generalize W2.heap.size = eB at *
  refine (csp_Header.calls A1 c1 l1 rep hq he _ (Kd.C_below HC1.out B2'.out) hc1 HHa.out).mono ?_
  rintro e W3 ⟨v3, rfl, hN3, hb3⟩
  obtain ⟨Ac, cc, rfl⟩ := Kd.N_slice hN3
  have CC3 := Lib.hid (Kd.N_reads' hN3).2.2
  have lc := (Kd.N_reads' hN3).2.1
  have P3 := blk_keep P2' hb3
  have QA3 := blk_keep QA2' hb3
  have QB3 := blk_keep QB2 hb3
  have CA3 := Lib.hid (Kd.C_below CA2'.out hb3)
  have CB3 := Lib.hid (Kd.C_below CB2'.out hb3)
  have B3 := Lib.hid (B2'.out.trans (hb3.mono B2'.out.size))
  clear hN3 hb3 P2' QA2' QB2 CA2' CB2' B2'
  go_wp2_with fail
  refine (bastionref14_Header.calls 4300001 A1 c1 l1 rep hq he _ (Kd.C_below HC1.out B3.out) hc1 HHb.out).mono ?_
  rintro e W4 ⟨v4, rfl, hN4, hb4⟩
  obtain ⟨Ad, cd, rfl⟩ := Kd.N_slice hN4
  have CD4 := Lib.hid (Kd.N_reads' hN4).2.2
  have ld := (Kd.N_reads' hN4).2.1
  have P4 := blk_keep P3 hb4
  have QA4 := blk_keep QA3 hb4
  have QB4 := blk_keep QB3 hb4
  have CA4 := Lib.hid (Kd.C_below CA3.out hb4)
  have CB4 := Lib.hid (Kd.C_below CB3.out hb4)
  have CC4 := Lib.hid (Kd.C_below CC3.out hb4)
  have B4 := Lib.hid (B3.out.trans (hb4.mono B3.out.size))
  clear hN4 hb4 P3 QA3 QB3 CA3 CB3 CC3 B3
  have m40 : W4.cell? ⟨w.heap.size, 0, none⟩ = some (.slice A3 ds.length c3) := by rw [Lib.cell_of_heap P4]; rfl
  have m41 : W4.cell? ⟨w.heap.size, 1, none⟩ = some (.bool r3) := by rw [Lib.cell_of_heap P4]; rfl
  go_wp2_with fail
  refine (csp_Text.calls 100 A3 c3 ds r3 tx te _ (Kd.C_below HC3.out B4.out) hc3 HTa.out).mono ?_
  rintro e W5 ⟨rfl, hb5⟩
  clear m40 m41
  have P5 := blk_keep P4 hb5
  have QA5 := blk_keep QA4 hb5
  have QB5 := blk_keep QB4 hb5
  have CA5 := Lib.hid (Kd.C_below CA4.out hb5)
  have CB5 := Lib.hid (Kd.C_below CB4.out hb5)
  have CC5 := Lib.hid (Kd.C_below CC4.out hb5)
  have CD5 := Lib.hid (Kd.C_below CD4.out hb5)
  have B5 := Lib.hid (B4.out.trans (hb5.mono B4.out.size))
  clear hb5 P4 QA4 QB4 CA4 CB4 CC4 CD4 B4
  have m50 : W5.cell? ⟨w.heap.size, 0, none⟩ = some (.slice A3 ds.length c3) := by rw [Lib.cell_of_heap P5]; rfl
  have m51 : W5.cell? ⟨w.heap.size, 1, none⟩ = some (.bool r3) := by rw [Lib.cell_of_heap P5]; rfl
  go_wp2_with fail
  refine (bastionref14_Text.calls 1100001 A3 c3 ds r3 tx te _ (Kd.C_below HC3.out B5.out) hc3 HTb.out).mono ?_
  rintro e W6 ⟨rfl, hb6⟩
  clear m50 m51
  have P6 := blk_keep P5 hb6
  have QA6 := blk_keep QA5 hb6
  have QB6 := blk_keep QB5 hb6
  have CA6 := Lib.hid (Kd.C_below CA5.out hb6)
  have CB6 := Lib.hid (Kd.C_below CB5.out hb6)
  have CC6 := Lib.hid (Kd.C_below CC5.out hb6)
  have CD6 := Lib.hid (Kd.C_below CD5.out hb6)
  have B6 := Lib.hid (B5.out.trans (hb6.mono B5.out.size))
  clear hb6 P5 QA5 QB5 CA5 CB5 CC5 CD5 B5
  have m60 : W6.cell? ⟨w.heap.size, 0, none⟩ = some (.slice A3 ds.length c3) := by rw [Lib.cell_of_heap P6]; rfl
  have m61 : W6.cell? ⟨w.heap.size, 1, none⟩ = some (.bool r3) := by rw [Lib.cell_of_heap P6]; rfl
  go_wp2_with fail
  refine (csp_Find.calls A3 c3 ds r3 name f1 f2 f3 _ (Kd.C_below HC3.out B6.out) hc3 HFa.out).mono ?_
  rintro e W7 ⟨v7, rfl, hR7, hb7⟩
  obtain ⟨Ax, cx, hvx, lx, hCX⟩ := Kd.R_reads hR7
  subst hvx
  have CX7 := Lib.hid hCX
  clear hR7 hCX m60 m61
  have P7 := blk_keep P6 hb7
  have QA7 := blk_keep QA6 hb7
  have QB7 := blk_keep QB6 hb7
  have CA7 := Lib.hid (Kd.C_below CA6.out hb7)
  have CB7 := Lib.hid (Kd.C_below CB6.out hb7)
  have CC7 := Lib.hid (Kd.C_below CC6.out hb7)
  have CD7 := Lib.hid (Kd.C_below CD6.out hb7)
  have B7 := Lib.hid (B6.out.trans (hb7.mono B6.out.size))
  clear hb7 P6 QA6 QB6 CA6 CB6 CC6 CD6 B6
  have m70 : ∀ o, (W7.alloc o).cell? ⟨w.heap.size, 0, none⟩ = some (.slice A3 ds.length c3) := fun o => by rw [Lib.cell_of_heap (blk_keep P7 ((Below.refl _ _).alloc (Nat.le_refl _) o))]; rfl
  have m71 : ∀ o, (W7.alloc o).cell? ⟨w.heap.size, 1, none⟩ = some (.bool r3) := fun o => by rw [Lib.cell_of_heap (blk_keep P7 ((Below.refl _ _).alloc (Nat.le_refl _) o))]; rfl
  go_wp2_with fail
  obtain ⟨W7', hW7⟩ : ∃ W7', W7' = W7.alloc (.cells #[.string f1, .slice Ax f2.length cx] 35) := ⟨_, rfl⟩
  rw [← hW7]
  have hb7' : Below W7.heap.size W7 W7' := by rw [hW7]; exact (Below.refl _ _).alloc (Nat.le_refl _) _
  have QX7' : W7'.heap[W7.heap.size]? = some (.cells #[.string f1, .slice Ax f2.length cx] 35 (0, 0)) := by rw [hW7]; exact heap_newF _ _
  clear hW7 m70 m71
  have P7' := blk_keep P7 hb7'
  have QA7' := blk_keep QA7 hb7'
  have QB7' := blk_keep QB7 hb7'
  have CA7' := Lib.hid (Kd.C_below CA7.out hb7')
  have CB7' := Lib.hid (Kd.C_below CB7.out hb7')
  have CC7' := Lib.hid (Kd.C_below CC7.out hb7')
  have CD7' := Lib.hid (Kd.C_below CD7.out hb7')
  have CX7' := Lib.hid (Kd.C_below CX7.out hb7')
  have B7' := Lib.hid (B7.out.trans (hb7'.mono B7.out.size))
  clear hb7' P7 QA7 QB7 CA7 CB7 CC7 CD7 CX7 B7
  generalize W7.heap.size = eX at *
  refine (bastionref14_Find.calls 1048600 A3 c3 ds r3 name f1 f2 f3 _ (Kd.C_below HC3.out B7'.out) hc3 HFb.out).mono ?_
  rintro e W8 ⟨v8, rfl, hR8, hb8⟩
  obtain ⟨Ay, cy, hvy, ly, hCY⟩ := Kd.R_reads hR8
  subst hvy
  have CY8 := Lib.hid hCY
  clear hR8 hCY
  have P8 := blk_keep P7' hb8
  have QA8 := blk_keep QA7' hb8
  have QB8 := blk_keep QB7' hb8
  have QX8 := blk_keep QX7' hb8
  have CA8 := Lib.hid (Kd.C_below CA7'.out hb8)
  have CB8 := Lib.hid (Kd.C_below CB7'.out hb8)
  have CC8 := Lib.hid (Kd.C_below CC7'.out hb8)
  have CD8 := Lib.hid (Kd.C_below CD7'.out hb8)
  have CX8 := Lib.hid (Kd.C_below CX7'.out hb8)
  have B8 := Lib.hid (B7'.out.trans (hb8.mono B7'.out.size))
  clear hb8 P7' QA7' QB7' QX7' CA7' CB7' CC7' CD7' CX7' B7'
  go_wp2_with fail
  obtain ⟨W9, hW9⟩ : ∃ W9, W9 = W8.alloc (.cells #[.string f1, .slice Ay f2.length cy] 35) := ⟨_, rfl⟩
  rw [← hW9]
  have hb9 : Below W8.heap.size W8 W9 := by rw [hW9]; exact (Below.refl _ _).alloc (Nat.le_refl _) _
  have QY9 : W9.heap[W8.heap.size]? = some (.cells #[.string f1, .slice Ay f2.length cy] 35 (0, 0)) := by rw [hW9]; exact heap_newF _ _
  clear hW9
  have P9 := blk_keep P8 hb9
  have QA9 := blk_keep QA8 hb9
  have QB9 := blk_keep QB8 hb9
  have QX9 := blk_keep QX8 hb9
  have CA9 := Lib.hid (Kd.C_below CA8.out hb9)
  have CB9 := Lib.hid (Kd.C_below CB8.out hb9)
  have CC9 := Lib.hid (Kd.C_below CC8.out hb9)
  have CD9 := Lib.hid (Kd.C_below CD8.out hb9)
  have CX9 := Lib.hid (Kd.C_below CX8.out hb9)
  have CY9 := Lib.hid (Kd.C_below CY8.out hb9)
  have B9 := Lib.hid (B8.out.trans (hb9.mono B8.out.size))
  clear hb9 P8 QA8 QB8 QX8 CA8 CB8 CC8 CD8 CX8 CY8 B8
  generalize W8.heap.size = eY at *
  have k0 : W9.cell? ⟨eA, 0, none⟩ = some (.slice Aa pd.length ca) := by rw [Lib.cell_of_heap QA9]; rfl
  have k1 : W9.cell? ⟨eA, 1, none⟩ = some (.bool pb) := by rw [Lib.cell_of_heap QA9]; rfl
  have k2 : W9.cell? ⟨eB, 0, none⟩ = some (.slice Ab pd.length cb) := by rw [Lib.cell_of_heap QB9]; rfl
  have k3 : W9.cell? ⟨eB, 1, none⟩ = some (.bool pb) := by rw [Lib.cell_of_heap QB9]; rfl
  have k4 : W9.cell? ⟨w.heap.size, 0, none⟩ = some (.slice A3 ds.length c3) := by rw [Lib.cell_of_heap P9]; rfl
  have k5 : W9.cell? ⟨w.heap.size, 1, none⟩ = some (.bool r3) := by rw [Lib.cell_of_heap P9]; rfl
  have k6 : W9.cell? ⟨eX, 0, none⟩ = some (.string f1) := by rw [Lib.cell_of_heap QX9]; rfl
  have k7 : W9.cell? ⟨eX, 1, none⟩ = some (.slice Ax f2.length cx) := by rw [Lib.cell_of_heap QX9]; rfl
  have k8 : W9.cell? ⟨eY, 0, none⟩ = some (.string f1) := by rw [Lib.cell_of_heap QY9]; rfl
  have k9 : W9.cell? ⟨eY, 1, none⟩ = some (.slice Ay f2.length cy) := by rw [Lib.cell_of_heap QY9]; rfl
  have hSame := HS.out.1
  have hAll := HS.out.2.1
  have hDir := HS.out.2.2
  have hCk := HCk.out
  have hCr := HCr.out
  have HZ := Lib.hid (And.intro hSame (And.intro hAll hDir))
  have C3 := Aside0.mk (Kd.C_below HC3.out B9.out)
  have CA := Aside0.mk CA9.out
  have CB := Aside0.mk CB9.out
  have CC := Aside0.mk CC9.out
  have CD := Aside0.mk CD9.out
  have CX := Aside0.mk CX9.out
  have CY := Aside0.mk CY9.out
  have HTB := Aside0.mk HT.out
  have HBW := Aside0.mk B9.out
  have HB := Aside0.mk (below_drew1 (Below.refl W9.heap.size W9))
  clear P9 QA9 QB9 QX9 QY9 CA9 CB9 CC9 CD9 CX9 CY9 B9 HC1 HC3 HT HPa HPb HHa HHb HTa HTb HFa HFb hSame hAll hDir hCk hCr
  refine start_ (n := 49) (S := fun w' => w'.cell? ⟨eA, 0, none⟩ = some (.slice Aa pd.length ca) ∧ w'.cell? ⟨eA, 1, none⟩ = some (.bool pb) ∧ w'.cell? ⟨eB, 0, none⟩ = some (.slice Ab pd.length cb) ∧ w'.cell? ⟨eB, 1, none⟩ = some (.bool pb) ∧ w'.cell? ⟨w.heap.size, 0, none⟩ = some (.slice A3 ds.length c3) ∧ w'.cell? ⟨w.heap.size, 1, none⟩ = some (.bool r3) ∧ w'.cell? ⟨eX, 0, none⟩ = some (.string f1) ∧ w'.cell? ⟨eX, 1, none⟩ = some (.slice Ax f2.length cx) ∧ w'.cell? ⟨eY, 0, none⟩ = some (.string f1) ∧ w'.cell? ⟨eY, 1, none⟩ = some (.slice Ay f2.length cy)) (ds := []) #[false, false, false, false, false, false, false, false, false, false, false, false, false, false, false, false, false, false, false, false, false, false, false, false, false, false, false, false, false, false, false, false, false, false, false, false, false, false, false, false, false, false, false, false, false, false, false, false, false] (by kernel_rfl) rfl rfl ⟨k0, k1, k2, k3, k4, k5, k6, k7, k8, k9⟩ (fun hHeld => ?_)
  generalize W9.drew = W9d at HB hHeld ⊢
  refine one_ (i := 0) (N := some 73) #[true, false, false, false, false, false, false, false, false, false, false, false, false, false, false, false, false, false, false, false, false, false, false, false, false, false, false, false, false, false, false, false, false, false, false, false, false, false, false, false, false, false, false, false, false, false, false, false, false] rfl rfl (by kernel_rfl) (by decide) (fun K hK => ?_)
  refine goes_ Tryz.func10 (by kernel_rfl) rfl #[] (by rfl) rfl rfl (by simp only [List.map_toArray, List.map_nil]) ?_
  with_reducible refine (lives_any _ (HTB.out.below (HBW.out.trans (HB.out.mono HBW.out.size)))).mono ?_
  rintro e w3 ⟨rfl, hb⟩
  refine ⟨_, rfl, ?_⟩
  have n0_ := Aside0.mk (HB.out.trans (hb.mono HB.out.size))
  clear HB
  have HB := n0_
  clear hb
  refine hK.out _ _ ⟨((HB.out.cell (World.block_lt_of_cell? _ _ k0)).trans k0), ((HB.out.cell (World.block_lt_of_cell? _ _ k1)).trans k1), ((HB.out.cell (World.block_lt_of_cell? _ _ k2)).trans k2), ((HB.out.cell (World.block_lt_of_cell? _ _ k3)).trans k3), ((HB.out.cell (World.block_lt_of_cell? _ _ k4)).trans k4), ((HB.out.cell (World.block_lt_of_cell? _ _ k5)).trans k5), ((HB.out.cell (World.block_lt_of_cell? _ _ k6)).trans k6), ((HB.out.cell (World.block_lt_of_cell? _ _ k7)).trans k7), ((HB.out.cell (World.block_lt_of_cell? _ _ k8)).trans k8), ((HB.out.cell (World.block_lt_of_cell? _ _ k9)).trans k9)⟩ (fun hHeld => ?_)
  clear hK K
  refine norm_ (a' := ?_) ?_ ?_
  rotate_left
  · show Act.put _ (some 73) _ = _
    simp only [Act.put, List.setIfInBounds_toArray, List.set_cons_zero, List.set_cons_succ, i64_w, i32_w]
    rfl
  refine pure_ (i := 1) (N := some 74) (v := ?_) (a' := ?_) #[true, true, false, false, false, false, false, false, false, false, false, false, false, false, false, false, false, false, false, false, false, false, false, false, false, false, false, false, false, false, false, false, false, false, false, false, false, false, false, false, false, false, false, false, false, false, false, false, false] rfl rfl (by kernel_rfl) (fun _ _ _ h => h) (Or.inl ⟨by rfl, ?_⟩) ?_ ?_
  rotate_left
  · intro w'
    go_simp
    with_reducible rfl
  rotate_left
  · simp only [Act.put, List.setIfInBounds_toArray, List.set_cons_zero, List.set_cons_succ, i64_w, i32_w]
    rfl
  refine take_ (i := 2) (N := some 75) (v := ?_) (a' := ?_) #[true, true, true, false, false, false, false, false, false, false, false, false, false, false, false, false, false, false, false, false, false, false, false, false, false, false, false, false, false, false, false, false, false, false, false, false, false, false, false, false, false, false, false, false, false, false, false, false, false] rfl rfl (by kernel_rfl) (fun _ _ _ h => h) (Or.inl ⟨by rfl, ?_⟩) hHeld ?_ ?_
  rotate_left
  · rintro w' ⟨s0, s1, s2, s3, s4, s5, s6, s7, s8, s9⟩
    go_simp
    with_reducible rfl
  rotate_left
  · simp only [Act.put, List.setIfInBounds_toArray, List.set_cons_zero, List.set_cons_succ, i64_w, i32_w]
    rfl
  refine take_ (i := 3) (N := some 76) (v := ?_) (a' := ?_) #[true, true, true, true, false, false, false, false, false, false, false, false, false, false, false, false, false, false, false, false, false, false, false, false, false, false, false, false, false, false, false, false, false, false, false, false, false, false, false, false, false, false, false, false, false, false, false, false, false] rfl rfl (by kernel_rfl) (fun _ _ _ h => h) (Or.inl ⟨by rfl, ?_⟩) hHeld ?_ ?_
  rotate_left
  · rintro w' ⟨s0, s1, s2, s3, s4, s5, s6, s7, s8, s9⟩
    go_simp
    with_reducible rfl
  rotate_left
  · simp only [Act.put, List.setIfInBounds_toArray, List.set_cons_zero, List.set_cons_succ, i64_w, i32_w]
    rfl
  refine one_ (i := 4) (N := some 77) #[true, true, true, true, true, false, false, false, false, false, false, false, false, false, false, false, false, false, false, false, false, false, false, false, false, false, false, false, false, false, false, false, false, false, false, false, false, false, false, false, false, false, false, false, false, false, false, false, false] rfl rfl (by kernel_rfl) (by decide) (fun K hK => ?_)
  refine goes_ Tryz.func14 (by kernel_rfl) rfl #[.agg #[.slice Aa pd.length ca, .bool pb], .agg #[.slice Ab pd.length cb, .bool pb]] (by rfl) rfl rfl (by simp only [List.map_toArray, List.map_cons, List.map_nil]; rfl) ?_
  with_reducible refine (bastionref14_Same.calls 300 Aa ca pd pb Ab cb pd pb true _ (Kd.C_below CA.out HB.out) la (Kd.C_below CB.out HB.out) lb HZ.out.1).mono ?_
  rintro e w3 ⟨rfl, hb⟩
  refine ⟨_, rfl, ?_⟩
  have n0_ := Aside0.mk (HB.out.trans (hb.mono HB.out.size))
  clear HB
  have HB := n0_
  clear hb
  refine hK.out _ _ ⟨((HB.out.cell (World.block_lt_of_cell? _ _ k0)).trans k0), ((HB.out.cell (World.block_lt_of_cell? _ _ k1)).trans k1), ((HB.out.cell (World.block_lt_of_cell? _ _ k2)).trans k2), ((HB.out.cell (World.block_lt_of_cell? _ _ k3)).trans k3), ((HB.out.cell (World.block_lt_of_cell? _ _ k4)).trans k4), ((HB.out.cell (World.block_lt_of_cell? _ _ k5)).trans k5), ((HB.out.cell (World.block_lt_of_cell? _ _ k6)).trans k6), ((HB.out.cell (World.block_lt_of_cell? _ _ k7)).trans k7), ((HB.out.cell (World.block_lt_of_cell? _ _ k8)).trans k8), ((HB.out.cell (World.block_lt_of_cell? _ _ k9)).trans k9)⟩ (fun hHeld => ?_)
  clear hK K
  refine norm_ (a' := ?_) ?_ ?_
  rotate_left
  · show Act.put _ (some 77) _ = _
    simp only [Act.put, List.setIfInBounds_toArray, List.set_cons_zero, List.set_cons_succ, i64_w, i32_w]
    rfl
  refine pure_ (i := 5) (N := some 78) (v := ?_) (a' := ?_) #[true, true, true, true, true, true, false, false, false, false, false, false, false, false, false, false, false, false, false, false, false, false, false, false, false, false, false, false, false, false, false, false, false, false, false, false, false, false, false, false, false, false, false, false, false, false, false, false, false] rfl rfl (by kernel_rfl) (fun _ _ _ h => h) (Or.inl ⟨by rfl, ?_⟩) ?_ ?_
  rotate_left
  · intro w'
    go_simp
    with_reducible rfl
  rotate_left
  · simp only [Act.put, List.setIfInBounds_toArray, List.set_cons_zero, List.set_cons_succ, i64_w, i32_w]
    rfl
  refine pure_ (i := 6) (N := some 79) (v := ?_) (a' := ?_) #[true, true, true, true, true, true, true, false, false, false, false, false, false, false, false, false, false, false, false, false, false, false, false, false, false, false, false, false, false, false, false, false, false, false, false, false, false, false, false, false, false, false, false, false, false, false, false, false, false] rfl rfl (by kernel_rfl) (fun _ _ _ h => h) (Or.inl ⟨by rfl, ?_⟩) ?_ ?_
  rotate_left
  · intro w'
    go_simp
    with_reducible rfl
  rotate_left
  · simp only [Act.put, List.setIfInBounds_toArray, List.set_cons_zero, List.set_cons_succ, i64_w, i32_w]
    rfl
  refine pure_ (i := 7) (N := some 80) (v := ?_) (a' := ?_) #[true, true, true, true, true, true, true, true, false, false, false, false, false, false, false, false, false, false, false, false, false, false, false, false, false, false, false, false, false, false, false, false, false, false, false, false, false, false, false, false, false, false, false, false, false, false, false, false, false] rfl rfl (by kernel_rfl) (fun _ _ _ h => h) (Or.inl ⟨by rfl, ?_⟩) ?_ ?_
  rotate_left
  · intro w'
    go_simp
    with_reducible rfl
  rotate_left
  · simp only [Act.put, List.setIfInBounds_toArray, List.set_cons_zero, List.set_cons_succ, i64_w, i32_w]
    rfl
  refine pure_ (i := 8) (N := some 81) (v := ?_) (a' := ?_) #[true, true, true, true, true, true, true, true, true, false, false, false, false, false, false, false, false, false, false, false, false, false, false, false, false, false, false, false, false, false, false, false, false, false, false, false, false, false, false, false, false, false, false, false, false, false, false, false, false] rfl rfl (by kernel_rfl) (fun _ _ _ h => h) (Or.inl ⟨by rfl, ?_⟩) ?_ ?_
  rotate_left
  · intro w'
    go_simp
    with_reducible rfl
  rotate_left
  · simp only [Act.put, List.setIfInBounds_toArray, List.set_cons_zero, List.set_cons_succ, i64_w, i32_w]
    rfl
  refine pure_ (i := 9) (N := some 82) (v := ?_) (a' := ?_) #[true, true, true, true, true, true, true, true, true, true, false, false, false, false, false, false, false, false, false, false, false, false, false, false, false, false, false, false, false, false, false, false, false, false, false, false, false, false, false, false, false, false, false, false, false, false, false, false, false] rfl rfl (by kernel_rfl) (fun _ _ _ h => h) (Or.inl ⟨by rfl, ?_⟩) ?_ ?_
  rotate_left
  · intro w'
    go_simp
    with_reducible rfl
  rotate_left
  · simp only [Act.put, List.setIfInBounds_toArray, List.set_cons_zero, List.set_cons_succ, i64_w, i32_w]
    rfl
  refine pure_ (i := 10) (N := some 83) (v := ?_) (a' := ?_) #[true, true, true, true, true, true, true, true, true, true, true, false, false, false, false, false, false, false, false, false, false, false, false, false, false, false, false, false, false, false, false, false, false, false, false, false, false, false, false, false, false, false, false, false, false, false, false, false, false] rfl rfl (by kernel_rfl) (fun _ _ _ h => h) (Or.inl ⟨by rfl, ?_⟩) ?_ ?_
  rotate_left
  · intro w'
    go_simp
    with_reducible rfl
  rotate_left
  · simp only [Act.put, List.setIfInBounds_toArray, List.set_cons_zero, List.set_cons_succ, i64_w, i32_w]
    rfl
  refine pure_ (i := 11) (N := some 84) (v := ?_) (a' := ?_) #[true, true, true, true, true, true, true, true, true, true, true, true, false, false, false, false, false, false, false, false, false, false, false, false, false, false, false, false, false, false, false, false, false, false, false, false, false, false, false, false, false, false, false, false, false, false, false, false, false] rfl rfl (by kernel_rfl) (fun _ _ _ h => h) (Or.inl ⟨by rfl, ?_⟩) ?_ ?_
  rotate_left
  · intro w'
    go_simp
    with_reducible rfl
  rotate_left
  · simp only [Act.put, List.setIfInBounds_toArray, List.set_cons_zero, List.set_cons_succ, i64_w, i32_w]
    rfl
  refine pure_ (i := 12) (N := some 85) (v := ?_) (a' := ?_) #[true, true, true, true, true, true, true, true, true, true, true, true, true, false, false, false, false, false, false, false, false, false, false, false, false, false, false, false, false, false, false, false, false, false, false, false, false, false, false, false, false, false, false, false, false, false, false, false, false] rfl rfl (by kernel_rfl) (fun _ _ _ h => h) (Or.inl ⟨by rfl, ?_⟩) ?_ ?_
  rotate_left
  · intro w'
    go_simp
    with_reducible rfl
  rotate_left
  · simp only [Act.put, List.setIfInBounds_toArray, List.set_cons_zero, List.set_cons_succ, i64_w, i32_w]
    rfl
  refine pure_ (i := 13) (N := some 86) (v := ?_) (a' := ?_) #[true, true, true, true, true, true, true, true, true, true, true, true, true, true, false, false, false, false, false, false, false, false, false, false, false, false, false, false, false, false, false, false, false, false, false, false, false, false, false, false, false, false, false, false, false, false, false, false, false] rfl rfl (by kernel_rfl) (fun _ _ _ h => h) (Or.inl ⟨by rfl, ?_⟩) ?_ ?_
  rotate_left
  · intro w'
    go_simp
    with_reducible rfl
  rotate_left
  · simp only [Act.put, List.setIfInBounds_toArray, List.set_cons_zero, List.set_cons_succ, i64_w, i32_w]
    rfl
  refine one_ (i := 14) (N := some 87) #[true, true, true, true, true, true, true, true, true, true, true, true, true, true, true, false, false, false, false, false, false, false, false, false, false, false, false, false, false, false, false, false, false, false, false, false, false, false, false, false, false, false, false, false, false, false, false, false, false] rfl rfl (by kernel_rfl) (by decide) (fun K hK => ?_)
  refine goes_ Tryz.func25 (by kernel_rfl) rfl #[.slice Ac hq.length cc, .slice Ad hq.length cd] (by rfl) rfl rfl (by simp only [List.map_toArray, List.map_cons, List.map_nil]; rfl) ?_
  with_reducible refine (bastionref14_SameAll.calls 400 Ac cc hq Ad cd hq true _ (Kd.C_below CC.out HB.out) lc (Kd.C_below CD.out HB.out) ld HZ.out.2.1).mono ?_
  rintro e w3 ⟨rfl, hb⟩
  refine ⟨_, rfl, ?_⟩
  have n0_ := Aside0.mk (HB.out.trans (hb.mono HB.out.size))
  clear HB
  have HB := n0_
  clear hb
  refine hK.out _ _ ⟨((HB.out.cell (World.block_lt_of_cell? _ _ k0)).trans k0), ((HB.out.cell (World.block_lt_of_cell? _ _ k1)).trans k1), ((HB.out.cell (World.block_lt_of_cell? _ _ k2)).trans k2), ((HB.out.cell (World.block_lt_of_cell? _ _ k3)).trans k3), ((HB.out.cell (World.block_lt_of_cell? _ _ k4)).trans k4), ((HB.out.cell (World.block_lt_of_cell? _ _ k5)).trans k5), ((HB.out.cell (World.block_lt_of_cell? _ _ k6)).trans k6), ((HB.out.cell (World.block_lt_of_cell? _ _ k7)).trans k7), ((HB.out.cell (World.block_lt_of_cell? _ _ k8)).trans k8), ((HB.out.cell (World.block_lt_of_cell? _ _ k9)).trans k9)⟩ (fun hHeld => ?_)
  clear hK K
  refine norm_ (a' := ?_) ?_ ?_
  rotate_left
  · show Act.put _ (some 87) _ = _
    simp only [Act.put, List.setIfInBounds_toArray, List.set_cons_zero, List.set_cons_succ, i64_w, i32_w]
    rfl
  refine pure_ (i := 15) (N := some 88) (v := ?_) (a' := ?_) #[true, true, true, true, true, true, true, true, true, true, true, true, true, true, true, true, false, false, false, false, false, false, false, false, false, false, false, false, false, false, false, false, false, false, false, false, false, false, false, false, false, false, false, false, false, false, false, false, false] rfl rfl (by kernel_rfl) (fun _ _ _ h => h) (Or.inl ⟨by rfl, ?_⟩) ?_ ?_
  rotate_left
  · intro w'
    go_simp
    with_reducible rfl
  rotate_left
  · simp only [Act.put, List.setIfInBounds_toArray, List.set_cons_zero, List.set_cons_succ, i64_w, i32_w]
    rfl
  refine pure_ (i := 16) (N := some 89) (v := ?_) (a' := ?_) #[true, true, true, true, true, true, true, true, true, true, true, true, true, true, true, true, true, false, false, false, false, false, false, false, false, false, false, false, false, false, false, false, false, false, false, false, false, false, false, false, false, false, false, false, false, false, false, false, false] rfl rfl (by kernel_rfl) (fun _ _ _ h => h) (Or.inl ⟨by rfl, ?_⟩) ?_ ?_
  rotate_left
  · intro w'
    go_simp
    with_reducible rfl
  rotate_left
  · simp only [Act.put, List.setIfInBounds_toArray, List.set_cons_zero, List.set_cons_succ, i64_w, i32_w]
    rfl
  refine pure_ (i := 17) (N := some 90) (v := ?_) (a' := ?_) #[true, true, true, true, true, true, true, true, true, true, true, true, true, true, true, true, true, true, false, false, false, false, false, false, false, false, false, false, false, false, false, false, false, false, false, false, false, false, false, false, false, false, false, false, false, false, false, false, false] rfl rfl (by kernel_rfl) (fun _ _ _ h => h) (Or.inl ⟨by rfl, ?_⟩) ?_ ?_
  rotate_left
  · intro w'
    go_simp
    with_reducible rfl
  rotate_left
  · simp only [Act.put, List.setIfInBounds_toArray, List.set_cons_zero, List.set_cons_succ, i64_w, i32_w]
    rfl
  refine pure_ (i := 18) (N := some 91) (v := ?_) (a' := ?_) #[true, true, true, true, true, true, true, true, true, true, true, true, true, true, true, true, true, true, true, false, false, false, false, false, false, false, false, false, false, false, false, false, false, false, false, false, false, false, false, false, false, false, false, false, false, false, false, false, false] rfl rfl (by kernel_rfl) (fun _ _ _ h => h) (Or.inl ⟨by rfl, ?_⟩) ?_ ?_
  rotate_left
  · intro w'
    go_simp
    with_reducible rfl
  rotate_left
  · simp only [Act.put, List.setIfInBounds_toArray, List.set_cons_zero, List.set_cons_succ, i64_w, i32_w]
    rfl
  refine pure_ (i := 19) (N := some 92) (v := ?_) (a' := ?_) #[true, true, true, true, true, true, true, true, true, true, true, true, true, true, true, true, true, true, true, true, false, false, false, false, false, false, false, false, false, false, false, false, false, false, false, false, false, false, false, false, false, false, false, false, false, false, false, false, false] rfl rfl (by kernel_rfl) (fun _ _ _ h => h) (Or.inl ⟨by rfl, ?_⟩) ?_ ?_
  rotate_left
  · intro w'
    go_simp
    with_reducible rfl
  rotate_left
  · simp only [Act.put, List.setIfInBounds_toArray, List.set_cons_zero, List.set_cons_succ, i64_w, i32_w]
    rfl
  refine pure_ (i := 20) (N := some 93) (v := ?_) (a' := ?_) #[true, true, true, true, true, true, true, true, true, true, true, true, true, true, true, true, true, true, true, true, true, false, false, false, false, false, false, false, false, false, false, false, false, false, false, false, false, false, false, false, false, false, false, false, false, false, false, false, false] rfl rfl (by kernel_rfl) (fun _ _ _ h => h) (Or.inl ⟨by rfl, ?_⟩) ?_ ?_
  rotate_left
  · intro w'
    go_simp
    with_reducible rfl
  rotate_left
  · simp only [Act.put, List.setIfInBounds_toArray, List.set_cons_zero, List.set_cons_succ, i64_w, i32_w]
    rfl
  refine pure_ (i := 21) (N := some 94) (v := ?_) (a' := ?_) #[true, true, true, true, true, true, true, true, true, true, true, true, true, true, true, true, true, true, true, true, true, true, false, false, false, false, false, false, false, false, false, false, false, false, false, false, false, false, false, false, false, false, false, false, false, false, false, false, false] rfl rfl (by kernel_rfl) (fun _ _ _ h => h) (Or.inl ⟨by rfl, ?_⟩) ?_ ?_
  rotate_left
  · intro w'
    go_simp
    with_reducible rfl
  rotate_left
  · simp only [Act.put, List.setIfInBounds_toArray, List.set_cons_zero, List.set_cons_succ, i64_w, i32_w]
    rfl
  refine pure_ (i := 22) (N := some 95) (v := ?_) (a' := ?_) #[true, true, true, true, true, true, true, true, true, true, true, true, true, true, true, true, true, true, true, true, true, true, true, false, false, false, false, false, false, false, false, false, false, false, false, false, false, false, false, false, false, false, false, false, false, false, false, false, false] rfl rfl (by kernel_rfl) (fun _ _ _ h => h) (Or.inl ⟨by rfl, ?_⟩) ?_ ?_
  rotate_left
  · intro w'
    go_simp
    with_reducible rfl
  rotate_left
  · simp only [Act.put, List.setIfInBounds_toArray, List.set_cons_zero, List.set_cons_succ, i64_w, i32_w]
    rfl
  refine pure_ (i := 23) (N := some 96) (v := ?_) (a' := ?_) #[true, true, true, true, true, true, true, true, true, true, true, true, true, true, true, true, true, true, true, true, true, true, true, true, false, false, false, false, false, false, false, false, false, false, false, false, false, false, false, false, false, false, false, false, false, false, false, false, false] rfl rfl (by kernel_rfl) (fun _ _ _ h => h) (Or.inl ⟨by rfl, ?_⟩) ?_ ?_
  rotate_left
  · intro w'
    go_simp
    with_reducible rfl
  rotate_left
  · simp only [Act.put, List.setIfInBounds_toArray, List.set_cons_zero, List.set_cons_succ, i64_w, i32_w]
    rfl
  refine pure_ (i := 24) (N := some 97) (v := ?_) (a' := ?_) #[true, true, true, true, true, true, true, true, true, true, true, true, true, true, true, true, true, true, true, true, true, true, true, true, true, false, false, false, false, false, false, false, false, false, false, false, false, false, false, false, false, false, false, false, false, false, false, false, false] rfl rfl (by kernel_rfl) (fun _ _ _ h => h) (Or.inl ⟨by rfl, ?_⟩) ?_ ?_
  rotate_left
  · intro w'
    go_simp
    with_reducible rfl
  rotate_left
  · simp only [Act.put, List.setIfInBounds_toArray, List.set_cons_zero, List.set_cons_succ, i64_w, i32_w]
    rfl
  refine pure_ (i := 25) (N := some 98) (v := ?_) (a' := ?_) #[true, true, true, true, true, true, true, true, true, true, true, true, true, true, true, true, true, true, true, true, true, true, true, true, true, true, false, false, false, false, false, false, false, false, false, false, false, false, false, false, false, false, false, false, false, false, false, false, false] rfl rfl (by kernel_rfl) (fun _ _ _ h => h) (Or.inl ⟨by rfl, ?_⟩) ?_ ?_
  rotate_left
  · intro w'
    go_simp
    with_reducible rfl
  rotate_left
  · simp only [Act.put, List.setIfInBounds_toArray, List.set_cons_zero, List.set_cons_succ, i64_w, i32_w]
    rfl
  refine pure_ (i := 26) (N := some 99) (v := ?_) (a' := ?_) #[true, true, true, true, true, true, true, true, true, true, true, true, true, true, true, true, true, true, true, true, true, true, true, true, true, true, true, false, false, false, false, false, false, false, false, false, false, false, false, false, false, false, false, false, false, false, false, false, false] rfl rfl (by kernel_rfl) (fun _ _ _ h => h) (Or.inl ⟨by rfl, ?_⟩) ?_ ?_
  rotate_left
  · intro w'
    go_simp
    with_reducible rfl
  rotate_left
  · simp only [Act.put, List.setIfInBounds_toArray, List.set_cons_zero, List.set_cons_succ, i64_w, i32_w]
    rfl
  refine pure_ (i := 27) (N := some 100) (v := ?_) (a' := ?_) #[true, true, true, true, true, true, true, true, true, true, true, true, true, true, true, true, true, true, true, true, true, true, true, true, true, true, true, true, false, false, false, false, false, false, false, false, false, false, false, false, false, false, false, false, false, false, false, false, false] rfl rfl (by kernel_rfl) (fun _ _ _ h => h) (Or.inl ⟨by rfl, ?_⟩) ?_ ?_
  rotate_left
  · intro w'
    go_simp
    with_reducible rfl
  rotate_left
  · simp only [Act.put, List.setIfInBounds_toArray, List.set_cons_zero, List.set_cons_succ, i64_w, i32_w]
    rfl
  refine pure_ (i := 28) (N := some 101) (v := ?_) (a' := ?_) #[true, true, true, true, true, true, true, true, true, true, true, true, true, true, true, true, true, true, true, true, true, true, true, true, true, true, true, true, true, false, false, false, false, false, false, false, false, false, false, false, false, false, false, false, false, false, false, false, false] rfl rfl (by kernel_rfl) (fun _ _ _ h => h) (Or.inl ⟨by rfl, ?_⟩) ?_ ?_
  rotate_left
  · intro w'
    go_simp
    with_reducible rfl
  rotate_left
  · simp only [Act.put, List.setIfInBounds_toArray, List.set_cons_zero, List.set_cons_succ, i64_w, i32_w]
    rfl
  refine pure_ (i := 29) (N := some 102) (v := ?_) (a' := ?_) #[true, true, true, true, true, true, true, true, true, true, true, true, true, true, true, true, true, true, true, true, true, true, true, true, true, true, true, true, true, true, false, false, false, false, false, false, false, false, false, false, false, false, false, false, false, false, false, false, false] rfl rfl (by kernel_rfl) (fun _ _ _ h => h) (Or.inl ⟨by rfl, ?_⟩) ?_ ?_
  rotate_left
  · intro w'
    go_simp
    with_reducible rfl
  rotate_left
  · simp only [Act.put, List.setIfInBounds_toArray, List.set_cons_zero, List.set_cons_succ, i64_w, i32_w]
    rfl
  refine pure_ (i := 30) (N := some 103) (v := ?_) (a' := ?_) #[true, true, true, true, true, true, true, true, true, true, true, true, true, true, true, true, true, true, true, true, true, true, true, true, true, true, true, true, true, true, true, false, false, false, false, false, false, false, false, false, false, false, false, false, false, false, false, false, false] rfl rfl (by kernel_rfl) (fun _ _ _ h => h) (Or.inl ⟨by rfl, ?_⟩) ?_ ?_
  rotate_left
  · intro w'
    go_simp
    with_reducible rfl
  rotate_left
  · simp only [Act.put, List.setIfInBounds_toArray, List.set_cons_zero, List.set_cons_succ, i64_w, i32_w]
    rfl
  refine pure_ (i := 31) (N := some 104) (v := ?_) (a' := ?_) #[true, true, true, true, true, true, true, true, true, true, true, true, true, true, true, true, true, true, true, true, true, true, true, true, true, true, true, true, true, true, true, true, false, false, false, false, false, false, false, false, false, false, false, false, false, false, false, false, false] rfl rfl (by kernel_rfl) (fun _ _ _ h => h) (Or.inl ⟨by rfl, ?_⟩) ?_ ?_
  rotate_left
  · intro w'
    go_simp
    with_reducible rfl
  rotate_left
  · simp only [Act.put, List.setIfInBounds_toArray, List.set_cons_zero, List.set_cons_succ, i64_w, i32_w]
    rfl
  refine take_ (i := 32) (N := some 105) (v := ?_) (a' := ?_) #[true, true, true, true, true, true, true, true, true, true, true, true, true, true, true, true, true, true, true, true, true, true, true, true, true, true, true, true, true, true, true, true, true, false, false, false, false, false, false, false, false, false, false, false, false, false, false, false, false] rfl rfl (by kernel_rfl) (fun _ _ _ h => h) (Or.inl ⟨by rfl, ?_⟩) hHeld ?_ ?_
  rotate_left
  · rintro w' ⟨s0, s1, s2, s3, s4, s5, s6, s7, s8, s9⟩
    go_simp
    with_reducible rfl
  rotate_left
  · simp only [Act.put, List.setIfInBounds_toArray, List.set_cons_zero, List.set_cons_succ, i64_w, i32_w]
    rfl
  refine take_ (i := 34) (N := some 107) (v := ?_) (a' := ?_) #[true, true, true, true, true, true, true, true, true, true, true, true, true, true, true, true, true, true, true, true, true, true, true, true, true, true, true, true, true, true, true, true, true, false, true, false, false, false, false, false, false, false, false, false, false, false, false, false, false] rfl rfl (by kernel_rfl) (fun _ _ _ h => h) (Or.inl ⟨by rfl, ?_⟩) hHeld ?_ ?_
  rotate_left
  · rintro w' ⟨s0, s1, s2, s3, s4, s5, s6, s7, s8, s9⟩
    go_simp
    with_reducible rfl
  rotate_left
  · simp only [Act.put, List.setIfInBounds_toArray, List.set_cons_zero, List.set_cons_succ, i64_w, i32_w]
    rfl
  refine one_ (i := 33) (N := some 106) #[true, true, true, true, true, true, true, true, true, true, true, true, true, true, true, true, true, true, true, true, true, true, true, true, true, true, true, true, true, true, true, true, true, true, true, false, false, false, false, false, false, false, false, false, false, false, false, false, false] rfl rfl (by kernel_rfl) (by decide) (fun K hK => ?_)
  refine goes_ Tryz.func13 (by kernel_rfl) rfl #[.agg #[.slice A3 ds.length c3, .bool r3]] (by rfl) rfl rfl (by simp only [List.map_toArray, List.map_cons, List.map_nil]; rfl) ?_
  with_reducible refine (csp_Check.calls A3 c3 ds r3 ck _ (Kd.C_below C3.out HB.out) hc3 HCk.out).mono ?_
  rintro e w3 ⟨rfl, hb⟩
  refine ⟨_, rfl, ?_⟩
  have n0_ := Aside0.mk (HB.out.trans (hb.mono HB.out.size))
  clear HB
  have HB := n0_
  clear hb
  refine hK.out _ _ ⟨((HB.out.cell (World.block_lt_of_cell? _ _ k0)).trans k0), ((HB.out.cell (World.block_lt_of_cell? _ _ k1)).trans k1), ((HB.out.cell (World.block_lt_of_cell? _ _ k2)).trans k2), ((HB.out.cell (World.block_lt_of_cell? _ _ k3)).trans k3), ((HB.out.cell (World.block_lt_of_cell? _ _ k4)).trans k4), ((HB.out.cell (World.block_lt_of_cell? _ _ k5)).trans k5), ((HB.out.cell (World.block_lt_of_cell? _ _ k6)).trans k6), ((HB.out.cell (World.block_lt_of_cell? _ _ k7)).trans k7), ((HB.out.cell (World.block_lt_of_cell? _ _ k8)).trans k8), ((HB.out.cell (World.block_lt_of_cell? _ _ k9)).trans k9)⟩ (fun hHeld => ?_)
  clear hK K
  refine norm_ (a' := ?_) ?_ ?_
  rotate_left
  · show Act.put _ (some 106) _ = _
    simp only [Act.put, List.setIfInBounds_toArray, List.set_cons_zero, List.set_cons_succ, i64_w, i32_w]
    rfl
  refine one_ (i := 35) (N := some 108) #[true, true, true, true, true, true, true, true, true, true, true, true, true, true, true, true, true, true, true, true, true, true, true, true, true, true, true, true, true, true, true, true, true, true, true, true, false, false, false, false, false, false, false, false, false, false, false, false, false] rfl rfl (by kernel_rfl) (by decide) (fun K hK => ?_)
  refine goes_ Tryz.func30 (by kernel_rfl) rfl #[.agg #[.slice A3 ds.length c3, .bool r3]] (by rfl) rfl rfl (by simp only [List.map_toArray, List.map_cons, List.map_nil]; rfl) ?_
  with_reducible refine (bastionref14_Check.calls 1100001 A3 c3 ds r3 ck _ (Kd.C_below C3.out HB.out) hc3 HCr.out).mono ?_
  rintro e w3 ⟨rfl, hb⟩
  refine ⟨_, rfl, ?_⟩
  have n0_ := Aside0.mk (HB.out.trans (hb.mono HB.out.size))
  clear HB
  have HB := n0_
  clear hb
  refine hK.out _ _ ⟨((HB.out.cell (World.block_lt_of_cell? _ _ k0)).trans k0), ((HB.out.cell (World.block_lt_of_cell? _ _ k1)).trans k1), ((HB.out.cell (World.block_lt_of_cell? _ _ k2)).trans k2), ((HB.out.cell (World.block_lt_of_cell? _ _ k3)).trans k3), ((HB.out.cell (World.block_lt_of_cell? _ _ k4)).trans k4), ((HB.out.cell (World.block_lt_of_cell? _ _ k5)).trans k5), ((HB.out.cell (World.block_lt_of_cell? _ _ k6)).trans k6), ((HB.out.cell (World.block_lt_of_cell? _ _ k7)).trans k7), ((HB.out.cell (World.block_lt_of_cell? _ _ k8)).trans k8), ((HB.out.cell (World.block_lt_of_cell? _ _ k9)).trans k9)⟩ (fun hHeld => ?_)
  clear hK K
  refine norm_ (a' := ?_) ?_ ?_
  rotate_left
  · show Act.put _ (some 108) _ = _
    simp only [Act.put, List.setIfInBounds_toArray, List.set_cons_zero, List.set_cons_succ, i64_w, i32_w]
    rfl
  refine pure_ (i := 36) (N := some 109) (v := ?_) (a' := ?_) #[true, true, true, true, true, true, true, true, true, true, true, true, true, true, true, true, true, true, true, true, true, true, true, true, true, true, true, true, true, true, true, true, true, true, true, true, true, false, false, false, false, false, false, false, false, false, false, false, false] rfl rfl (by kernel_rfl) (fun _ _ _ h => h) (Or.inl ⟨by rfl, ?_⟩) ?_ ?_
  rotate_left
  · intro w'
    go_simp
    with_reducible rfl
  rotate_left
  · simp only [Act.put, List.setIfInBounds_toArray, List.set_cons_zero, List.set_cons_succ, i64_w, i32_w]
    rfl
  refine pure_ (i := 37) (N := some 110) (v := ?_) (a' := ?_) #[true, true, true, true, true, true, true, true, true, true, true, true, true, true, true, true, true, true, true, true, true, true, true, true, true, true, true, true, true, true, true, true, true, true, true, true, true, true, false, false, false, false, false, false, false, false, false, false, false] rfl rfl (by kernel_rfl) (fun _ _ _ h => h) (Or.inl ⟨by rfl, ?_⟩) ?_ ?_
  rotate_left
  · intro w'
    go_simp
    with_reducible rfl
  rotate_left
  · simp only [Act.put, List.setIfInBounds_toArray, List.set_cons_zero, List.set_cons_succ, i64_w, i32_w]
    rfl
  refine pure_ (i := 38) (N := some 111) (v := ?_) (a' := ?_) #[true, true, true, true, true, true, true, true, true, true, true, true, true, true, true, true, true, true, true, true, true, true, true, true, true, true, true, true, true, true, true, true, true, true, true, true, true, true, true, false, false, false, false, false, false, false, false, false, false] rfl rfl (by kernel_rfl) (fun _ _ _ h => h) (Or.inl ⟨by rfl, ?_⟩) ?_ ?_
  rotate_left
  · intro w'
    go_simp
    with_reducible rfl
  rotate_left
  · simp only [Act.put, List.setIfInBounds_toArray, List.set_cons_zero, List.set_cons_succ, i64_w, i32_w]
    rfl
  refine take_ (i := 39) (N := some 112) (v := ?_) (a' := ?_) #[true, true, true, true, true, true, true, true, true, true, true, true, true, true, true, true, true, true, true, true, true, true, true, true, true, true, true, true, true, true, true, true, true, true, true, true, true, true, true, true, false, false, false, false, false, false, false, false, false] rfl rfl (by kernel_rfl) (fun _ _ _ h => h) (Or.inl ⟨by rfl, ?_⟩) hHeld ?_ ?_
  rotate_left
  · rintro w' ⟨s0, s1, s2, s3, s4, s5, s6, s7, s8, s9⟩
    go_simp
    with_reducible rfl
  rotate_left
  · simp only [Act.put, List.setIfInBounds_toArray, List.set_cons_zero, List.set_cons_succ, i64_w, i32_w]
    rfl
  refine take_ (i := 40) (N := some 113) (v := ?_) (a' := ?_) #[true, true, true, true, true, true, true, true, true, true, true, true, true, true, true, true, true, true, true, true, true, true, true, true, true, true, true, true, true, true, true, true, true, true, true, true, true, true, true, true, true, false, false, false, false, false, false, false, false] rfl rfl (by kernel_rfl) (fun _ _ _ h => h) (Or.inl ⟨by rfl, ?_⟩) hHeld ?_ ?_
  rotate_left
  · rintro w' ⟨s0, s1, s2, s3, s4, s5, s6, s7, s8, s9⟩
    go_simp
    with_reducible rfl
  rotate_left
  · simp only [Act.put, List.setIfInBounds_toArray, List.set_cons_zero, List.set_cons_succ, i64_w, i32_w]
    rfl
  refine one_ (i := 41) (N := some 114) #[true, true, true, true, true, true, true, true, true, true, true, true, true, true, true, true, true, true, true, true, true, true, true, true, true, true, true, true, true, true, true, true, true, true, true, true, true, true, true, true, true, true, false, false, false, false, false, false, false] rfl rfl (by kernel_rfl) (by decide) (fun K hK => ?_)
  refine goes_ Tryz.func23 (by kernel_rfl) rfl #[.agg #[.string f1, .slice Ax f2.length cx], .agg #[.string f1, .slice Ay f2.length cy]] (by rfl) rfl rfl (by simp only [List.map_toArray, List.map_cons, List.map_nil]; rfl) ?_
  with_reducible refine (bastionref14_SameDirective.calls 1048600 f1 Ax cx f2 f1 Ay cy f2 true _ (Kd.C_below CX.out HB.out) lx (Kd.C_below CY.out HB.out) ly HZ.out.2.2).mono ?_
  rintro e w3 ⟨rfl, hb⟩
  refine ⟨_, rfl, ?_⟩
  have n0_ := Aside0.mk (HB.out.trans (hb.mono HB.out.size))
  clear HB
  have HB := n0_
  clear hb
  refine hK.out _ _ ⟨((HB.out.cell (World.block_lt_of_cell? _ _ k0)).trans k0), ((HB.out.cell (World.block_lt_of_cell? _ _ k1)).trans k1), ((HB.out.cell (World.block_lt_of_cell? _ _ k2)).trans k2), ((HB.out.cell (World.block_lt_of_cell? _ _ k3)).trans k3), ((HB.out.cell (World.block_lt_of_cell? _ _ k4)).trans k4), ((HB.out.cell (World.block_lt_of_cell? _ _ k5)).trans k5), ((HB.out.cell (World.block_lt_of_cell? _ _ k6)).trans k6), ((HB.out.cell (World.block_lt_of_cell? _ _ k7)).trans k7), ((HB.out.cell (World.block_lt_of_cell? _ _ k8)).trans k8), ((HB.out.cell (World.block_lt_of_cell? _ _ k9)).trans k9)⟩ (fun hHeld => ?_)
  clear hK K
  refine norm_ (a' := ?_) ?_ ?_
  rotate_left
  · show Act.put _ (some 114) _ = _
    simp only [Act.put, List.setIfInBounds_toArray, List.set_cons_zero, List.set_cons_succ, i64_w, i32_w]
    rfl
  refine pure_ (i := 42) (N := some 115) (v := ?_) (a' := ?_) #[true, true, true, true, true, true, true, true, true, true, true, true, true, true, true, true, true, true, true, true, true, true, true, true, true, true, true, true, true, true, true, true, true, true, true, true, true, true, true, true, true, true, true, false, false, false, false, false, false] rfl rfl (by kernel_rfl) (fun _ _ _ h => h) (Or.inl ⟨by rfl, ?_⟩) ?_ ?_
  rotate_left
  · intro w'
    go_simp
    with_reducible rfl
  rotate_left
  · simp only [Act.put, List.setIfInBounds_toArray, List.set_cons_zero, List.set_cons_succ, i64_w, i32_w]
    rfl
  refine pure_ (i := 43) (N := some 116) (v := ?_) (a' := ?_) #[true, true, true, true, true, true, true, true, true, true, true, true, true, true, true, true, true, true, true, true, true, true, true, true, true, true, true, true, true, true, true, true, true, true, true, true, true, true, true, true, true, true, true, true, false, false, false, false, false] rfl rfl (by kernel_rfl) (fun _ _ _ h => h) (Or.inl ⟨by rfl, ?_⟩) ?_ ?_
  rotate_left
  · intro w'
    go_simp
    with_reducible rfl
  rotate_left
  · simp only [Act.put, List.setIfInBounds_toArray, List.set_cons_zero, List.set_cons_succ, i64_w, i32_w]
    rfl
  refine pure_ (i := 44) (N := some 117) (v := ?_) (a' := ?_) #[true, true, true, true, true, true, true, true, true, true, true, true, true, true, true, true, true, true, true, true, true, true, true, true, true, true, true, true, true, true, true, true, true, true, true, true, true, true, true, true, true, true, true, true, true, false, false, false, false] rfl rfl (by kernel_rfl) (fun _ _ _ h => h) (Or.inl ⟨by rfl, ?_⟩) ?_ ?_
  rotate_left
  · intro w'
    go_simp
    with_reducible rfl
  rotate_left
  · simp only [Act.put, List.setIfInBounds_toArray, List.set_cons_zero, List.set_cons_succ, i64_w, i32_w]
    rfl
  refine pure_ (i := 45) (N := some 118) (v := ?_) (a' := ?_) #[true, true, true, true, true, true, true, true, true, true, true, true, true, true, true, true, true, true, true, true, true, true, true, true, true, true, true, true, true, true, true, true, true, true, true, true, true, true, true, true, true, true, true, true, true, true, false, false, false] rfl rfl (by kernel_rfl) (fun _ _ _ h => h) (Or.inl ⟨by rfl, ?_⟩) ?_ ?_
  rotate_left
  · intro w'
    go_simp
    with_reducible rfl
  rotate_left
  · simp only [Act.put, List.setIfInBounds_toArray, List.set_cons_zero, List.set_cons_succ, i64_w, i32_w]
    rfl
  refine pure_ (i := 46) (N := some 119) (v := ?_) (a' := ?_) #[true, true, true, true, true, true, true, true, true, true, true, true, true, true, true, true, true, true, true, true, true, true, true, true, true, true, true, true, true, true, true, true, true, true, true, true, true, true, true, true, true, true, true, true, true, true, true, false, false] rfl rfl (by kernel_rfl) (fun _ _ _ h => h) (Or.inl ⟨by rfl, ?_⟩) ?_ ?_
  rotate_left
  · intro w'
    go_simp
    with_reducible rfl
  rotate_left
  · simp only [Act.put, List.setIfInBounds_toArray, List.set_cons_zero, List.set_cons_succ, i64_w, i32_w]
    rfl
  refine pure_ (i := 47) (N := some 120) (v := ?_) (a' := ?_) #[true, true, true, true, true, true, true, true, true, true, true, true, true, true, true, true, true, true, true, true, true, true, true, true, true, true, true, true, true, true, true, true, true, true, true, true, true, true, true, true, true, true, true, true, true, true, true, true, false] rfl rfl (by kernel_rfl) (fun _ _ _ h => h) (Or.inl ⟨by rfl, ?_⟩) ?_ ?_
  rotate_left
  · intro w'
    go_simp
    with_reducible rfl
  rotate_left
  · simp only [Act.put, List.setIfInBounds_toArray, List.set_cons_zero, List.set_cons_succ, i64_w, i32_w]
    rfl
  refine pure_ (i := 48) (N := some 10) (v := ?_) (a' := ?_) #[true, true, true, true, true, true, true, true, true, true, true, true, true, true, true, true, true, true, true, true, true, true, true, true, true, true, true, true, true, true, true, true, true, true, true, true, true, true, true, true, true, true, true, true, true, true, true, true, true] rfl rfl (by kernel_rfl) (fun _ _ _ h => h) (Or.inl ⟨by rfl, ?_⟩) ?_ ?_
  rotate_left
  · intro w'
    go_simp
    with_reducible rfl
  rotate_left
  · simp only [Act.put, List.setIfInBounds_toArray, List.set_cons_zero, List.set_cons_succ, i64_w, i32_w]
    rfl
  refine done_ (by kernel_rfl) ?_
  go_wp2_with fail
  go_ret
  exact ⟨rfl, HBW.out.trans (HB.out.mono HBW.out.size)⟩
def bastionlaw14_CspPolicies.f (a0 : ByteArray) (l1 : List ByteArray) (a2 : Bool) (l3_0 : List S35) (a3_1 : Bool) (a4 : ByteArray) : Option Bool :=
  if a0.size ≤ 1048576 ∧ (l1.map fun s => s.size + 1).sum ≤ 1048576 ∧ mPol (⟨l3_0, a3_1⟩ : S25) ≤ 1048576 then some true else none
theorem bastionlaw14_CspPolicies.calls (a0 : ByteArray) (A1 : Option Addr) (c1 : Nat) (l1 : List ByteArray) (a2 : Bool) (A3_0 : Option Addr) (c3_0 : Nat) (l3_0 : List (S35)) (a3_1 : Bool) (a4 : ByteArray) (r : Bool) (w : World) (hr1 : Kd.C Kd.string w A1 l1.length l1) (hc1 : l1.length ≤ c1) (hr3_0 : Kd.C k35 w A3_0 l3_0.length l3_0) (hc3_0 : l3_0.length ≤ c3_0) (hT : UTabs w) (h : bastionlaw14_CspPolicies.f a0 l1 a2 l3_0 a3_1 a4 = some r) :
    Calls Tryz.prog 9 #[.string a0, .slice A1 l1.length c1, .bool a2, .agg #[.slice A3_0 l3_0.length c3_0, .bool a3_1], .string a4] w fun e w' => e = .returned (.bool r) ∧ Below w.heap.size w w' := by
  unfold bastionlaw14_CspPolicies.f at h
  split at h
  · rename_i hs
    obtain rfl := Option.some.inj h
    obtain ⟨l, rfl⟩ := B_ex a0
    have e : (l1.map fun s => s.data.toList).map B = l1 := by
      rw [List.map_map]
      conv => rhs; rw [← List.map_id l1]
      exact List.map_congr_left (fun x _ => B_of x)
    have := policies_any l A1 c1 (l1.map fun s => s.data.toList) l1 e a2 A3_0 c3_0 l3_0 a3_1 a4 w hT (by rw [B_size] at hs; exact hs.1) (by rw [e]; exact hs.2.1) (small_of hs.2.2) hr1 hc1 hr3_0 hc3_0
    exact this
  · cases h
theorem cspPolicies_pure (a0 : ByteArray) (l1 : List ByteArray) (a2 : Bool) (x3 : S25) (a4 : ByteArray) (h : a0.size + mStrs l1 + mPol x3 + a4.size ≤ 1048576) : bastionlaw14_CspPolicies.f a0 l1 a2 x3.f0 x3.f1 a4 = some true := by
  unfold bastionlaw14_CspPolicies.f
  refine if_pos ⟨by omega, ?_, by have : mPol (⟨x3.f0, x3.f1⟩ : S25) = mPol x3 := rfl; omega⟩
  have : (l1.map fun s => s.size + 1).sum ≤ mStrs l1 := by unfold mStrs; rw [show mStr = fun s : ByteArray => s.size + 1 from rfl]; omega
  omega
end Go.Proofs.YtnndgmbflkdhkaaGreatDoor.Q
