/- csp.Check: what it answers at every policy. -/
import Derived.Test.YtnndgmbflkdhkaaGreatDoorSFunc
import Derived.Test.YtnndgmbflkdhkaaGreatDoorSB7
import Derived.RegionTactic
import Derived.Deep.RegionWith
set_option linter.unusedSimpArgs false
set_option linter.unusedVariables false
namespace Go.Proofs.YtnndgmbflkdhkaaGreatDoor.Q
open Go.RowKit Go.Proofs.YtnndgmbflkdhkaaGreatDoorW.PrintWords Go.Proofs.YtnndgmbflkdhkaaGreatDoorW.PrintLast Go.Proofs.YtnndgmbflkdhkaaGreatDoorW.PrintMore Go.Proofs.YtnndgmbflkdhkaaGreatDoor.P1
theorem heap_newQ (w : World) (o : Obj) : (w.alloc o).heap[w.heap.size]? = some o := by unfold World.alloc; exact Array.getElem?_push_size
def wordV (s : ByteArray) : Bool := !s.data.toList.isEmpty && !Lib.containsAny s.data.toList [9, 10, 12, 13, 32, 59]
theorem word_f (s : ByteArray) (h : s.size ≤ 1048576) : csp_word.f s = some (wordV s) := by
  obtain ⟨l, rfl⟩ := B_ex s
  unfold csp_word.f wordV
  rw [B_toList, B_data]
  cases l with
  | nil => rfl
  | cons c t =>
    rw [if_neg (by simp)]
    unfold strings_ContainsAny.f
    rw [if_pos ⟨by decide, by decide, by decide, by omega⟩]
    simp only [Option.bind_some, B_data]
    rfl
def lowEq (s : ByteArray) : Bool := (B (low s.data.toList)).toList == s.toList
def dirOk (prev : List S35) (d : S35) : Bool := wordV d.f0 && lowEq d.f0 && decide (d.f1.length ≤ 64) && !(prev.any fun e => e.f0.toList == d.f0.toList)
def okAt (l : List S35) : Nat → Bool
  | 0 => decide (l.length ≤ 64)
  | k + 1 => okAt l k && dirOk (l.take k) (rd_T35 l (k : Int)) && !((rd_T35 l (k : Int)).f1.any fun v => !wordV v)
def dirSmall (d : S35) : Bool := decide (d.f0.size ≤ 1048576) && decide (d.f1.length ≤ 1048576) && d.f1.all fun v => decide (v.size ≤ 1048576)
def csp_Check.f (l0_0 : List S35) (a0_1 : Bool) : Option Int := if l0_0.length ≤ 1048576 ∧ l0_0.all dirSmall = true then some (if okAt l0_0 l0_0.length then 0 else 20) else none
set_option maxHeartbeats 8000000 in
set_option maxRecDepth 100000 in
theorem check_any (A : Option Addr) (c : Nat) (l : List S35) (rep : Bool) (w : World) (hn : l.length ≤ 1048576) (hsm : l.all dirSmall = true) (hC : Kd.C k35 w A l.length l) (hc : l.length ≤ c) :
    Calls Tryz.prog 13 #[.agg #[.slice A l.length c, .bool rep]] w fun e w' => e = .returned (.int .i64 (if okAt l l.length then 0 else 20)) ∧ Below w.heap.size w w' := by
  have HC := Lib.hid hC
  have HS := Lib.hid hsm
  clear hC hsm
  generalize hnl : l.length = n at *
  have hpb : w.heap.size ≠ w.heap.size + 1 := by omega
  go_enter Tryz.func13, Tryz.ntmps13
  go_wp2_with fail
  go_loopg [3, 4, 13] n (fun gg s3 _ s13 wr => ∃ k : Nat, k ≤ n ∧ n - k ≤ gg ∧ s13 = .int .i64 k ∧ s3 = .bool (okAt l k) ∧ Hid (Below w.heap.size w wr) ∧ Hid (wr.heap[w.heap.size]? = some (.cells #[.slice A n c, .bool rep] 25 (0, 0))))
  case atStart =>
    refine ⟨0, Nat.zero_le _, by omega, rfl, ?_, Lib.hid ((Below.refl _ _).alloc (Nat.le_refl _) _), Lib.hid (heap_newQ _ _)⟩
    show _ = Value.bool (decide (l.length ≤ 64))
    rw [hnl]
    congr 1
    exact decide_eq_decide.2 (by omega)
  case round =>
    obtain ⟨k, hkk, hg, rfl, rfl, BW, HPB⟩ := hrel
    by_cases hlt : k < n
    · have hltz : (k : Int) < (n : Int) := by omega
      have hC0 := Kd.C_below HC.out BW.out
      obtain ⟨ad, A1, c1, rfl, k0, k1, hl1, hC1⟩ := at_T35 hC0 (k : Int) (by omega) (by omega)
      rw [Int.toNat_natCast] at k0 k1
      have hmem : rd_T35 l (k : Int) ∈ l := by
        unfold rd_T35
        rw [List.getD_eq_getElem?_getD, Int.toNat_natCast, List.getElem?_eq_getElem (by omega)]
        exact List.getElem_mem _
      have hds := List.all_eq_true.1 HS.out _ hmem
      have hok1 : okAt l (k + 1) = (okAt l k && dirOk (l.take k) (rd_T35 l (k : Int)) && !((rd_T35 l (k : Int)).f1.any fun v => !wordV v)) := rfl
      have HCT := Lib.hid (Kd.C_take (m := k) (by rw [hnl]; exact hC0) (by omega))
      have htk : (l.take k).length = k := by rw [List.length_take]; omega
      have HC1 := Lib.hid hC1
      clear hC0 hC1 hmem
      generalize rd_T35 l (k : Int) = d at *
      obtain ⟨x, vs⟩ := d
      simp only at k0 k1 hl1 HC1
      simp only [dirSmall, Bool.and_eq_true, decide_eq_true_eq] at hds
      obtain ⟨⟨hx, hvl⟩, hvs⟩ := hds
      have HVS := Lib.hid hvs
      clear hvs
      have p0 : wr.cell? ⟨w.heap.size, 0, none⟩ = some (.slice (some ad) n c) := by rw [Lib.cell_of_heap HPB.out]; rfl
      have hPlt : w.heap.size < wr.heap.size := blk_lt0 HPB.out
      go_wp2_with fail
      obtain ⟨w5, hw5⟩ : ∃ w5, w5 = wr.alloc (.cells #[.string x, .slice A1 vs.length c1] 35) := ⟨_, rfl⟩
      rw [← hw5]
      have HB5 := Lib.hid (show Below wr.heap.size wr w5 by rw [hw5]; exact (Below.refl _ _).alloc (Nat.le_refl _) _)
      have HD5 := Lib.hid (show w5.heap[wr.heap.size]? = some (.cells #[.string x, .slice A1 vs.length c1] 35 (0, 0)) by rw [hw5]; exact heap_newQ _ _)
      have HP5 := Lib.hid (blk_keep HPB.out HB5.out)
      clear hw5 k0 k1 p0
      obtain ⟨dB, hdB⟩ : ∃ dB, dB = wr.heap.size := ⟨_, rfl⟩
      rw [← hdB] at HD5 ⊢
      have hne : w.heap.size ≠ dB := by omega
      clear hdB
      have mk : ∀ W : World, Below w5.heap.size w5 W → (W.cell? ⟨w.heap.size, 0, none⟩ = some (.slice (some ad) n c) ∧ W.cell? ⟨dB, 0, none⟩ = some (.string x) ∧ W.cell? ⟨dB, 1, none⟩ = some (.slice A1 vs.length c1)) := fun W hW => ⟨by rw [Lib.cell_of_heap (blk_keep HP5.out hW)]; rfl, by rw [Lib.cell_of_heap (blk_keep HD5.out hW)]; rfl, by rw [Lib.cell_of_heap (blk_keep HD5.out hW)]; rfl⟩
      obtain ⟨p5, d5, e5⟩ := mk w5 (Below.refl _ _)
      obtain ⟨p6, d6, e6⟩ := mk w5.drew (Below.refl _ w5).drew
      have hwd : ∀ W : World, Hid (Below w5.heap.size w5 W) → Calls Tryz.prog 37 #[.string x] W fun e W' => e = .returned (.bool (wordV x)) ∧ Hid (Below w5.heap.size w5 W') ∧ W'.cell? ⟨w.heap.size, 0, none⟩ = some (.slice (some ad) n c) ∧ W'.cell? ⟨dB, 0, none⟩ = some (.string x) ∧ W'.cell? ⟨dB, 1, none⟩ = some (.slice A1 vs.length c1) := fun W hW =>
        (csp_word.calls x _ W (word_f x hx)).mono (by
          rintro e W' ⟨rfl, h⟩
          have hb := hW.out.trans (h.mono hW.out.size)
          exact ⟨rfl, Lib.hid hb, mk W' hb⟩)
      have hlw : ∀ W : World, Hid (Below w5.heap.size w5 W) → Calls Tryz.prog 33 #[.string x] W fun e W' => e = .returned (.string (B (low x.data.toList))) ∧ Hid (Below w5.heap.size w5 W') ∧ W'.cell? ⟨w.heap.size, 0, none⟩ = some (.slice (some ad) n c) ∧ W'.cell? ⟨dB, 0, none⟩ = some (.string x) ∧ W'.cell? ⟨dB, 1, none⟩ = some (.slice A1 vs.length c1) := fun W hW =>
        (pct_Lower.calls x _ W (lower_f x.data.toList (by rw [Array.length_toList]; exact Nat.le_trans hx (by omega)))).mono (by
          rintro e W' ⟨rfl, h⟩
          have hb := hW.out.trans (h.mono hW.out.size)
          exact ⟨rfl, Lib.hid hb, mk W' hb⟩)
      have hnm : ∀ W : World, Hid (Below w5.heap.size w5 W) → Calls Tryz.prog 35 #[.string x] W fun e W' => ∃ b, e = .returned (.func (.func 57) #[] #[.pointer (some ⟨b, 0, none⟩)]) ∧ Hid (W'.cell? ⟨b, 0, none⟩ = some (.string x)) ∧ Hid (Below w5.heap.size w5 W') ∧ W'.cell? ⟨w.heap.size, 0, none⟩ = some (.slice (some ad) n c) ∧ W'.cell? ⟨dB, 0, none⟩ = some (.string x) ∧ W'.cell? ⟨dB, 1, none⟩ = some (.slice A1 vs.length c1) := fun W hW =>
        (named_calls x W).mono (by
          rintro e W' ⟨rfl, rfl⟩
          have hb := hW.out.alloc hW.out.size (.cells #[.string x] 9)
          exact ⟨_, rfl, Lib.hid (by rw [Lib.cell_of_heap (heap_newQ _ _)]; rfl), Lib.hid hb, mk _ hb⟩)
      have hhas : ∀ (W : World) (b : Nat), Hid (Below w5.heap.size w5 W) → W.cell? ⟨b, 0, none⟩ = some (.string x) → Calls Tryz.prog 34 #[.slice (some ad) k c, .func (.func 57) #[] #[.pointer (some ⟨b, 0, none⟩)]] W fun e W' => e = .returned (.bool ((l.take k).any fun e => e.f0.toList == x.toList)) ∧ Hid (Below w5.heap.size w5 W') ∧ W'.cell? ⟨w.heap.size, 0, none⟩ = some (.slice (some ad) n c) ∧ W'.cell? ⟨dB, 0, none⟩ = some (.string x) ∧ W'.cell? ⟨dB, 1, none⟩ = some (.slice A1 vs.length c1) := fun W b hW hb => by
        have h0 := dirHas_calls (some ad) c (l.take k) (fun y => y.toList == x.toList) 57 #[.pointer (some ⟨b, 0, none⟩)] (enters_of Tryz.func57 (by kernel_rfl) rfl) W (by rw [htk]; omega) (Kd.C_below HCT.out (HB5.out.trans (Below.mono hW.out HB5.out.size)))
          (fun W2 y v h2 => named1_calls y x v b W2 (pw_cell_below h2 hb))
        rw [htk] at h0
        refine h0.mono ?_
        rintro e W' ⟨rfl, h⟩
        have hb2 := hW.out.trans (h.mono hW.out.size)
        exact ⟨rfl, Lib.hid hb2, mk W' hb2⟩
      obtain ⟨i0, hi0, _, hsz0, _⟩ := info_parts info35
      have hcut := cut_to (P := Tryz.prog) 23 35 .i64 Tryz.underlying23 hi0 (some ad) n c (k : Int) (by omega) (by omega) hc
      rw [Int.toNat_natCast] at hcut
      clear hi0 hsz0
      have hdo : dirOk (l.take k) ⟨x, vs⟩ = (wordV x && lowEq x && decide (vs.length ≤ 64) && !((l.take k).any fun e => e.f0.toList == x.toList)) := rfl
      rw [hdo] at hok1
      clear hdo mk
      have hB6 := Lib.hid ((Below.refl w5.heap.size w5).drew)
      have hle : ((B (low x.data.toList)).toList == x.toList) = lowEq x := rfl
      generalize wordV x = b1 at *
      generalize lowEq x = b2 at *
      generalize ((l.take k).any fun e => e.f0.toList == x.toList) = b4 at *
      have hb3 : (decide (vs.length ≤ 64) = true ∧ decide ((vs.length : Int) ≤ 64) = true) ∨ (decide (vs.length ≤ 64) = false ∧ decide ((vs.length : Int) ≤ 64) = false) := by
        by_cases h : vs.length ≤ 64
        · exact .inl ⟨decide_eq_true h, decide_eq_true (by omega)⟩
        · exact .inr ⟨decide_eq_false h, decide_eq_false (by omega)⟩
      generalize hok : okAt l k = ok at *
      cases ok with
      | false =>
        have hokn : okAt l (k + 1) = false := by rw [hok1]; rfl
        first | go_region | fail
        all_goals
          go_wp2
          go_roundg (n - (k + 1))
          case measure => omega
          case rel => exact ⟨k + 1, by omega, by omega, by go_num, by rw [hokn], Lib.hid (BW.out.trans ((HB5.out.trans (Below.mono (Below.refl _ w5).drew HB5.out.size)).mono BW.out.size)), Lib.hid (blk_keep HP5.out (Below.refl _ w5).drew)⟩
      | true =>
        cases b1 with
        | false =>
          have hokn : okAt l (k + 1) = false := by rw [hok1]; rfl
          refine wp_region_held_drew (S := (fun W' => W'.cell? ⟨w.heap.size, 0, none⟩ = some (.slice (some ad) n c) ∧ W'.cell? ⟨dB, 0, none⟩ = some (.string x) ∧ W'.cell? ⟨dB, 1, none⟩ = some (.slice A1 vs.length c1) ∧ Hid (Below w5.heap.size w5 W'))) (by kernel_rfl) ⟨p6, d6, e6, hB6⟩ (fun hHeld => ?_)
          refine wpAnyH_take (i := 0) (oi := (⟨some 18, .move (.tmp 3), 4, "csp.go:74", #[], none⟩ : Oper)) (v := (.bool true)) rfl (by kernel_rfl) (by kernel_rfl) (by kernel_rfl) (fun _ _ _ h => h) (Or.inl ⟨by rfl, ?_⟩) hHeld ?_
          · (intro W hSw; obtain ⟨z1, z2, z3, z4⟩ := hSw; clear hHeld; first | (go_simp; done) | (go_simp; with_reducible rfl) | (go_simp; simp [hq3]; done))
          try simp only [Act.put, List.setIfInBounds_toArray, List.set_cons_zero, List.set_cons_succ]
          refine wpAnyH_take (i := 1) (oi := (⟨some 19, .move (.tmp 18), 4, "csp.go:74", #[⟨0, .data⟩], none⟩ : Oper)) (v := (.bool true)) rfl (by kernel_rfl) (by kernel_rfl) (by kernel_rfl) (fun _ _ _ h => h) (Or.inl ⟨by rfl, ?_⟩) hHeld ?_
          · (intro W hSw; obtain ⟨z1, z2, z3, z4⟩ := hSw; clear hHeld; first | (go_simp; done) | (go_simp; with_reducible rfl) | (go_simp; simp [hq3]; done))
          try simp only [Act.put, List.setIfInBounds_toArray, List.set_cons_zero, List.set_cons_succ]
          refine wpAnyH_take (i := 2) (oi := (⟨some 20, .fieldAddr 35 (.tmp 5) 0, 0, "csp.go:74", #[⟨1, .guard⟩], some (1, true)⟩ : Oper)) (v := (.pointer (some ⟨dB, 0, none⟩))) rfl (by kernel_rfl) (by kernel_rfl) (by kernel_rfl) (fun _ _ _ h => h) (Or.inl ⟨by rfl, ?_⟩) hHeld ?_
          · (intro W hSw; obtain ⟨z1, z2, z3, z4⟩ := hSw; clear hHeld; first | (go_simp; done) | (go_simp; with_reducible rfl) | (go_simp; simp [hq3]; done))
          try simp only [Act.put, List.setIfInBounds_toArray, List.set_cons_zero, List.set_cons_succ]
          refine wpAnyH_take (i := 3) (oi := (⟨some 21, .load 9 (.tmp 20), 9, "csp.go:74", #[⟨2, .data⟩, ⟨1, .guard⟩], some (1, true)⟩ : Oper)) (v := (.string x)) rfl (by kernel_rfl) (by kernel_rfl) (by kernel_rfl) (fun _ _ _ h => h) (Or.inl ⟨by rfl, ?_⟩) hHeld ?_
          · (intro W hSw; obtain ⟨z1, z2, z3, z4⟩ := hSw; clear hHeld; first | (go_simp; done) | (go_simp; with_reducible rfl) | (go_simp; simp [hq3]; done))
          try simp only [Act.put, List.setIfInBounds_toArray, List.set_cons_zero, List.set_cons_succ]
          refine wpAnyH_ready (rs := [4]) (by kernel_rfl) (by simp) (AllReadyH.cons rfl (fun K hK => ?_) AllReadyH.nil)
          go_simp
          refine (hwd _ hHeld.2.2.2).mono ?_
          rintro e W4 ⟨rfl, h, q1, q2, q3⟩
          refine hK.out _ _ ⟨q1, q2, q3, h⟩ (fun hHeld => ?_)
          clear hK
          try simp only [Act.put, List.setIfInBounds_toArray, List.set_cons_zero, List.set_cons_succ]
          refine wpAnyH_take (i := 5) (oi := (⟨some 23, .pick (.tmp 19) (.tmp 22) (.const (.bool false)), 4, "csp.go:74", #[⟨1, .data⟩, ⟨4, .data⟩], none⟩ : Oper)) (v := (.bool false)) rfl (by kernel_rfl) (by kernel_rfl) (by kernel_rfl) (fun _ _ _ h => h) (Or.inl ⟨by rfl, ?_⟩) hHeld ?_
          · (intro W hSw; obtain ⟨z1, z2, z3, z4⟩ := hSw; clear hHeld; first | (go_simp; done) | (go_simp; with_reducible rfl) | (go_simp; simp [hq3]; done))
          try simp only [Act.put, List.setIfInBounds_toArray, List.set_cons_zero, List.set_cons_succ]
          refine wpAnyH_take (i := 6) (oi := (⟨some 24, .move (.tmp 23), 4, "csp.go:74", #[⟨5, .data⟩, ⟨4, .chain⟩], none⟩ : Oper)) (v := (.bool false)) rfl (by kernel_rfl) (by kernel_rfl) (by kernel_rfl) (fun _ _ _ h => h) (Or.inl ⟨by rfl, ?_⟩) hHeld ?_
          · (intro W hSw; obtain ⟨z1, z2, z3, z4⟩ := hSw; clear hHeld; first | (go_simp; done) | (go_simp; with_reducible rfl) | (go_simp; simp [hq3]; done))
          try simp only [Act.put, List.setIfInBounds_toArray, List.set_cons_zero, List.set_cons_succ]
          refine wpAnyH_take (i := 7) (oi := (⟨some 25, .fieldAddr 35 (.tmp 5) 0, 0, "csp.go:74", #[⟨6, .guard⟩], some (6, true)⟩ : Oper)) (v := undef) rfl (by kernel_rfl) (by kernel_rfl) (by kernel_rfl) (fun _ _ _ h => h) (Or.inr ⟨by rfl, rfl⟩) hHeld ?_
          try simp only [Act.put, List.setIfInBounds_toArray, List.set_cons_zero, List.set_cons_succ]
          refine wpAnyH_take (i := 8) (oi := (⟨some 26, .load 9 (.tmp 25), 9, "csp.go:74", #[⟨7, .data⟩, ⟨6, .guard⟩], some (6, true)⟩ : Oper)) (v := undef) rfl (by kernel_rfl) (by kernel_rfl) (by kernel_rfl) (fun _ _ _ h => h) (Or.inr ⟨by rfl, rfl⟩) hHeld ?_
          try simp only [Act.put, List.setIfInBounds_toArray, List.set_cons_zero, List.set_cons_succ]
          refine wpAnyH_take (i := 10) (oi := (⟨some 28, .fieldAddr 35 (.tmp 5) 0, 0, "csp.go:74", #[⟨6, .guard⟩], some (6, true)⟩ : Oper)) (v := undef) rfl (by kernel_rfl) (by kernel_rfl) (by kernel_rfl) (fun _ _ _ h => h) (Or.inr ⟨by rfl, rfl⟩) hHeld ?_
          try simp only [Act.put, List.setIfInBounds_toArray, List.set_cons_zero, List.set_cons_succ]
          refine wpAnyH_take (i := 11) (oi := (⟨some 29, .load 9 (.tmp 28), 9, "csp.go:74", #[⟨10, .data⟩, ⟨6, .guard⟩], some (6, true)⟩ : Oper)) (v := undef) rfl (by kernel_rfl) (by kernel_rfl) (by kernel_rfl) (fun _ _ _ h => h) (Or.inr ⟨by rfl, rfl⟩) hHeld ?_
          try simp only [Act.put, List.setIfInBounds_toArray, List.set_cons_zero, List.set_cons_succ]
          refine wpAnyH_take (i := 9) (oi := ({ dst := some 27, op := Go.Op.call { callee := Go.Callee.value (Go.Operand.func 33), args := #[Go.Operand.tmp 26], argTypes := #[9] }, type := 9, pos := "csp.go:74", after := #[{ on := 8, ground := Go.Ground.data }, { on := 6, ground := Go.Ground.chain }, { on := 6, ground := Go.Ground.guard }], guard := some (6, true) } : Oper)) (v := undef) rfl (by kernel_rfl) (by kernel_rfl) (by kernel_rfl) (fun _ _ _ h => h) (Or.inr ⟨by rfl, rfl⟩) hHeld ?_
          try simp only [Act.put, List.setIfInBounds_toArray, List.set_cons_zero, List.set_cons_succ]
          refine wpAnyH_take (i := 12) (oi := ({ dst := some 30, op := Go.Op.binOp Go.BinOp.eql 9 (Go.Operand.tmp 27) (Go.Operand.tmp 29) 9, type := 4, pos := "csp.go:74", after := #[{ on := 9, ground := Go.Ground.data }, { on := 11, ground := Go.Ground.data }, { on := 6, ground := Go.Ground.guard }], guard := some (6, true) } : Oper)) (v := undef) rfl (by kernel_rfl) (by kernel_rfl) (by kernel_rfl) (fun _ _ _ h => h) (Or.inr ⟨by rfl, rfl⟩) hHeld ?_
          try simp only [Act.put, List.setIfInBounds_toArray, List.set_cons_zero, List.set_cons_succ]
          refine wpAnyH_take (i := 13) (oi := (⟨some 31, .pick (.tmp 24) (.tmp 30) (.const (.bool false)), 4, "csp.go:74", #[⟨6, .data⟩, ⟨12, .data⟩], none⟩ : Oper)) (v := (.bool false)) rfl (by kernel_rfl) (by kernel_rfl) (by kernel_rfl) (fun _ _ _ h => h) (Or.inl ⟨by rfl, ?_⟩) hHeld ?_
          · (intro W hSw; obtain ⟨z1, z2, z3, z4⟩ := hSw; clear hHeld; first | (go_simp; done) | (go_simp; with_reducible rfl) | (go_simp; simp [hq3]; done))
          try simp only [Act.put, List.setIfInBounds_toArray, List.set_cons_zero, List.set_cons_succ]
          refine wpAnyH_take (i := 14) (oi := (⟨some 32, .move (.tmp 31), 4, "csp.go:74", #[⟨13, .data⟩, ⟨9, .chain⟩], none⟩ : Oper)) (v := (.bool false)) rfl (by kernel_rfl) (by kernel_rfl) (by kernel_rfl) (fun _ _ _ h => h) (Or.inl ⟨by rfl, ?_⟩) hHeld ?_
          · (intro W hSw; obtain ⟨z1, z2, z3, z4⟩ := hSw; clear hHeld; first | (go_simp; done) | (go_simp; with_reducible rfl) | (go_simp; simp [hq3]; done))
          try simp only [Act.put, List.setIfInBounds_toArray, List.set_cons_zero, List.set_cons_succ]
          refine wpAnyH_take (i := 15) (oi := (⟨some 33, .fieldAddr 35 (.tmp 5) 1, 0, "csp.go:74", #[⟨14, .guard⟩], some (14, true)⟩ : Oper)) (v := undef) rfl (by kernel_rfl) (by kernel_rfl) (by kernel_rfl) (fun _ _ _ h => h) (Or.inr ⟨by rfl, rfl⟩) hHeld ?_
          try simp only [Act.put, List.setIfInBounds_toArray, List.set_cons_zero, List.set_cons_succ]
          refine wpAnyH_take (i := 16) (oi := (⟨some 34, .load 33 (.tmp 33), 33, "csp.go:74", #[⟨15, .data⟩, ⟨14, .guard⟩], some (14, true)⟩ : Oper)) (v := undef) rfl (by kernel_rfl) (by kernel_rfl) (by kernel_rfl) (fun _ _ _ h => h) (Or.inr ⟨by rfl, rfl⟩) hHeld ?_
          try simp only [Act.put, List.setIfInBounds_toArray, List.set_cons_zero, List.set_cons_succ]
          refine wpAnyH_take (i := 17) (oi := ({ dst := some 35, op := Go.Op.call { callee := Go.Callee.builtin Go.Builtin.len, args := #[Go.Operand.tmp 34], argTypes := #[33] }, type := 3, pos := "csp.go:74", after := #[{ on := 16, ground := Go.Ground.data }, { on := 14, ground := Go.Ground.guard }], guard := some (14, true) } : Oper)) (v := undef) rfl (by kernel_rfl) (by kernel_rfl) (by kernel_rfl) (fun _ _ _ h => h) (Or.inr ⟨by rfl, rfl⟩) hHeld ?_
          try simp only [Act.put, List.setIfInBounds_toArray, List.set_cons_zero, List.set_cons_succ]
          refine wpAnyH_take (i := 18) (oi := ({ dst := some 36, op := Go.Op.binOp Go.BinOp.leq 3 (Go.Operand.tmp 35) (Go.Operand.const (Go.Value.int Go.IntKind.i64 64)) 3, type := 4, pos := "csp.go:74", after := #[{ on := 17, ground := Go.Ground.data }, { on := 14, ground := Go.Ground.guard }], guard := some (14, true) } : Oper)) (v := undef) rfl (by kernel_rfl) (by kernel_rfl) (by kernel_rfl) (fun _ _ _ h => h) (Or.inr ⟨by rfl, rfl⟩) hHeld ?_
          try simp only [Act.put, List.setIfInBounds_toArray, List.set_cons_zero, List.set_cons_succ]
          refine wpAnyH_take (i := 19) (oi := (⟨some 37, .pick (.tmp 32) (.tmp 36) (.const (.bool false)), 4, "csp.go:74", #[⟨14, .data⟩, ⟨18, .data⟩], none⟩ : Oper)) (v := (.bool false)) rfl (by kernel_rfl) (by kernel_rfl) (by kernel_rfl) (fun _ _ _ h => h) (Or.inl ⟨by rfl, ?_⟩) hHeld ?_
          · (intro W hSw; obtain ⟨z1, z2, z3, z4⟩ := hSw; clear hHeld; first | (go_simp; done) | (go_simp; with_reducible rfl) | (go_simp; simp [hq3]; done))
          try simp only [Act.put, List.setIfInBounds_toArray, List.set_cons_zero, List.set_cons_succ]
          refine wpAnyH_take (i := 20) (oi := (⟨some 38, .move (.tmp 37), 4, "csp.go:74", #[⟨19, .data⟩, ⟨14, .chain⟩], none⟩ : Oper)) (v := (.bool false)) rfl (by kernel_rfl) (by kernel_rfl) (by kernel_rfl) (fun _ _ _ h => h) (Or.inl ⟨by rfl, ?_⟩) hHeld ?_
          · (intro W hSw; obtain ⟨z1, z2, z3, z4⟩ := hSw; clear hHeld; first | (go_simp; done) | (go_simp; with_reducible rfl) | (go_simp; simp [hq3]; done))
          try simp only [Act.put, List.setIfInBounds_toArray, List.set_cons_zero, List.set_cons_succ]
          refine wpAnyH_take (i := 21) (oi := (⟨some 39, .fieldAddr 25 (.tmp 1) 0, 0, "csp.go:74", #[⟨20, .guard⟩], some (20, true)⟩ : Oper)) (v := undef) rfl (by kernel_rfl) (by kernel_rfl) (by kernel_rfl) (fun _ _ _ h => h) (Or.inr ⟨by rfl, rfl⟩) hHeld ?_
          try simp only [Act.put, List.setIfInBounds_toArray, List.set_cons_zero, List.set_cons_succ]
          refine wpAnyH_take (i := 22) (oi := (⟨some 40, .load 23 (.tmp 39), 23, "csp.go:74", #[⟨21, .data⟩, ⟨20, .guard⟩], some (20, true)⟩ : Oper)) (v := undef) rfl (by kernel_rfl) (by kernel_rfl) (by kernel_rfl) (fun _ _ _ h => h) (Or.inr ⟨by rfl, rfl⟩) hHeld ?_
          try simp only [Act.put, List.setIfInBounds_toArray, List.set_cons_zero, List.set_cons_succ]
          refine wpAnyH_take (i := 23) (oi := (⟨some 41, .move (.tmp 4), 3, "csp.go:74", #[⟨20, .guard⟩], some (20, true)⟩ : Oper)) (v := undef) rfl (by kernel_rfl) (by kernel_rfl) (by kernel_rfl) (fun _ _ _ h => h) (Or.inr ⟨by rfl, rfl⟩) hHeld ?_
          try simp only [Act.put, List.setIfInBounds_toArray, List.set_cons_zero, List.set_cons_succ]
          refine wpAnyH_take (i := 24) (oi := (⟨some 42, .slice 23 (.tmp 40) none (some (.tmp 41)) none, 23, "csp.go:74", #[⟨22, .data⟩, ⟨23, .data⟩, ⟨20, .guard⟩], some (20, true)⟩ : Oper)) (v := undef) rfl (by kernel_rfl) (by kernel_rfl) (by kernel_rfl) (fun _ _ _ h => h) (Or.inr ⟨by rfl, rfl⟩) hHeld ?_
          try simp only [Act.put, List.setIfInBounds_toArray, List.set_cons_zero, List.set_cons_succ]
          refine wpAnyH_take (i := 25) (oi := (⟨some 43, .fieldAddr 35 (.tmp 5) 0, 0, "csp.go:74", #[⟨20, .guard⟩], some (20, true)⟩ : Oper)) (v := undef) rfl (by kernel_rfl) (by kernel_rfl) (by kernel_rfl) (fun _ _ _ h => h) (Or.inr ⟨by rfl, rfl⟩) hHeld ?_
          try simp only [Act.put, List.setIfInBounds_toArray, List.set_cons_zero, List.set_cons_succ]
          refine wpAnyH_take (i := 26) (oi := (⟨some 44, .load 9 (.tmp 43), 9, "csp.go:74", #[⟨25, .data⟩, ⟨20, .guard⟩], some (20, true)⟩ : Oper)) (v := undef) rfl (by kernel_rfl) (by kernel_rfl) (by kernel_rfl) (fun _ _ _ h => h) (Or.inr ⟨by rfl, rfl⟩) hHeld ?_
          try simp only [Act.put, List.setIfInBounds_toArray, List.set_cons_zero, List.set_cons_succ]
          refine wpAnyH_take (i := 27) (oi := ({ dst := some 45, op := Go.Op.call { callee := Go.Callee.value (Go.Operand.func 35), args := #[Go.Operand.tmp 44], argTypes := #[9] }, type := 65, pos := "csp.go:74", after := #[{ on := 26, ground := Go.Ground.data }, { on := 20, ground := Go.Ground.chain }, { on := 20, ground := Go.Ground.guard }], guard := some (20, true) } : Oper)) (v := undef) rfl (by kernel_rfl) (by kernel_rfl) (by kernel_rfl) (fun _ _ _ h => h) (Or.inr ⟨by rfl, rfl⟩) hHeld ?_
          try simp only [Act.put, List.setIfInBounds_toArray, List.set_cons_zero, List.set_cons_succ]
          refine wpAnyH_take (i := 28) (oi := ({ dst := some 46, op := Go.Op.call { callee := Go.Callee.value (Go.Operand.func 34), args := #[Go.Operand.tmp 42, Go.Operand.tmp 45], argTypes := #[23, 65] }, type := 4, pos := "csp.go:74", after := #[{ on := 24, ground := Go.Ground.data }, { on := 27, ground := Go.Ground.data }, { on := 27, ground := Go.Ground.chain }, { on := 20, ground := Go.Ground.guard }], guard := some (20, true) } : Oper)) (v := undef) rfl (by kernel_rfl) (by kernel_rfl) (by kernel_rfl) (fun _ _ _ h => h) (Or.inr ⟨by rfl, rfl⟩) hHeld ?_
          try simp only [Act.put, List.setIfInBounds_toArray, List.set_cons_zero, List.set_cons_succ]
          refine wpAnyH_take (i := 29) (oi := ({ dst := some 47, op := Go.Op.unOp Go.UnOp.not 4 (Go.Operand.tmp 46), type := 4, pos := "csp.go:74", after := #[{ on := 28, ground := Go.Ground.data }, { on := 20, ground := Go.Ground.guard }], guard := some (20, true) } : Oper)) (v := undef) rfl (by kernel_rfl) (by kernel_rfl) (by kernel_rfl) (fun _ _ _ h => h) (Or.inr ⟨by rfl, rfl⟩) hHeld ?_
          try simp only [Act.put, List.setIfInBounds_toArray, List.set_cons_zero, List.set_cons_succ]
          refine wpAnyH_take (i := 30) (oi := (⟨some 48, .pick (.tmp 38) (.tmp 47) (.const (.bool false)), 4, "csp.go:74", #[⟨20, .data⟩, ⟨29, .data⟩], none⟩ : Oper)) (v := (.bool false)) rfl (by kernel_rfl) (by kernel_rfl) (by kernel_rfl) (fun _ _ _ h => h) (Or.inl ⟨by rfl, ?_⟩) hHeld ?_
          · (intro W hSw; obtain ⟨z1, z2, z3, z4⟩ := hSw; clear hHeld; first | (go_simp; done) | (go_simp; with_reducible rfl) | (go_simp; simp [hq3]; done))
          try simp only [Act.put, List.setIfInBounds_toArray, List.set_cons_zero, List.set_cons_succ]
          refine wpAnyH_take (i := 31) (oi := (⟨some 3, .assign (.tmp 48), 4, "csp.go:74", #[⟨30, .data⟩, ⟨28, .chain⟩, ⟨0, .phase⟩, ⟨1, .phase⟩, ⟨2, .phase⟩, ⟨3, .phase⟩, ⟨4, .phase⟩, ⟨5, .phase⟩, ⟨6, .phase⟩, ⟨7, .phase⟩, ⟨8, .phase⟩, ⟨9, .phase⟩, ⟨10, .phase⟩, ⟨11, .phase⟩, ⟨12, .phase⟩, ⟨13, .phase⟩, ⟨14, .phase⟩, ⟨15, .phase⟩, ⟨16, .phase⟩, ⟨17, .phase⟩, ⟨18, .phase⟩, ⟨19, .phase⟩, ⟨20, .phase⟩, ⟨21, .phase⟩, ⟨22, .phase⟩, ⟨23, .phase⟩, ⟨24, .phase⟩, ⟨25, .phase⟩, ⟨26, .phase⟩, ⟨27, .phase⟩, ⟨28, .phase⟩, ⟨29, .phase⟩, ⟨30, .phase⟩], none⟩ : Oper)) (v := (.bool false)) rfl (by kernel_rfl) (by kernel_rfl) (by kernel_rfl) (fun _ _ _ h => h) (Or.inl ⟨by rfl, ?_⟩) hHeld ?_
          · (intro W hSw; obtain ⟨z1, z2, z3, z4⟩ := hSw; clear hHeld; first | (go_simp; done) | (go_simp; with_reducible rfl) | (go_simp; simp [hq3]; done))
          try simp only [Act.put, List.setIfInBounds_toArray, List.set_cons_zero, List.set_cons_succ]
          refine wpAnyH_done (by kernel_rfl) ?_ _
          go_wp2
          go_roundg (n - (k + 1))
          case measure => omega
          case rel => exact ⟨k + 1, by omega, by omega, by go_num, by rw [hokn], Lib.hid (BW.out.trans ((HB5.out.trans (Below.mono hHeld.2.2.2.out HB5.out.size)).mono BW.out.size)), Lib.hid (blk_keep HP5.out hHeld.2.2.2.out)⟩
        | true =>
          cases b2 with
          | false =>
            have hokn : okAt l (k + 1) = false := by rw [hok1]; rfl
            refine wp_region_held_drew (S := (fun W' => W'.cell? ⟨w.heap.size, 0, none⟩ = some (.slice (some ad) n c) ∧ W'.cell? ⟨dB, 0, none⟩ = some (.string x) ∧ W'.cell? ⟨dB, 1, none⟩ = some (.slice A1 vs.length c1) ∧ Hid (Below w5.heap.size w5 W'))) (by kernel_rfl) ⟨p6, d6, e6, hB6⟩ (fun hHeld => ?_)
            refine wpAnyH_take (i := 0) (oi := (⟨some 18, .move (.tmp 3), 4, "csp.go:74", #[], none⟩ : Oper)) (v := (.bool true)) rfl (by kernel_rfl) (by kernel_rfl) (by kernel_rfl) (fun _ _ _ h => h) (Or.inl ⟨by rfl, ?_⟩) hHeld ?_
            · (intro W hSw; obtain ⟨z1, z2, z3, z4⟩ := hSw; clear hHeld; first | (go_simp; done) | (go_simp; with_reducible rfl) | (go_simp; simp [hq3]; done))
            try simp only [Act.put, List.setIfInBounds_toArray, List.set_cons_zero, List.set_cons_succ]
            refine wpAnyH_take (i := 1) (oi := (⟨some 19, .move (.tmp 18), 4, "csp.go:74", #[⟨0, .data⟩], none⟩ : Oper)) (v := (.bool true)) rfl (by kernel_rfl) (by kernel_rfl) (by kernel_rfl) (fun _ _ _ h => h) (Or.inl ⟨by rfl, ?_⟩) hHeld ?_
            · (intro W hSw; obtain ⟨z1, z2, z3, z4⟩ := hSw; clear hHeld; first | (go_simp; done) | (go_simp; with_reducible rfl) | (go_simp; simp [hq3]; done))
            try simp only [Act.put, List.setIfInBounds_toArray, List.set_cons_zero, List.set_cons_succ]
            refine wpAnyH_take (i := 2) (oi := (⟨some 20, .fieldAddr 35 (.tmp 5) 0, 0, "csp.go:74", #[⟨1, .guard⟩], some (1, true)⟩ : Oper)) (v := (.pointer (some ⟨dB, 0, none⟩))) rfl (by kernel_rfl) (by kernel_rfl) (by kernel_rfl) (fun _ _ _ h => h) (Or.inl ⟨by rfl, ?_⟩) hHeld ?_
            · (intro W hSw; obtain ⟨z1, z2, z3, z4⟩ := hSw; clear hHeld; first | (go_simp; done) | (go_simp; with_reducible rfl) | (go_simp; simp [hq3]; done))
            try simp only [Act.put, List.setIfInBounds_toArray, List.set_cons_zero, List.set_cons_succ]
            refine wpAnyH_take (i := 3) (oi := (⟨some 21, .load 9 (.tmp 20), 9, "csp.go:74", #[⟨2, .data⟩, ⟨1, .guard⟩], some (1, true)⟩ : Oper)) (v := (.string x)) rfl (by kernel_rfl) (by kernel_rfl) (by kernel_rfl) (fun _ _ _ h => h) (Or.inl ⟨by rfl, ?_⟩) hHeld ?_
            · (intro W hSw; obtain ⟨z1, z2, z3, z4⟩ := hSw; clear hHeld; first | (go_simp; done) | (go_simp; with_reducible rfl) | (go_simp; simp [hq3]; done))
            try simp only [Act.put, List.setIfInBounds_toArray, List.set_cons_zero, List.set_cons_succ]
            refine wpAnyH_ready (rs := [4]) (by kernel_rfl) (by simp) (AllReadyH.cons rfl (fun K hK => ?_) AllReadyH.nil)
            go_simp
            refine (hwd _ hHeld.2.2.2).mono ?_
            rintro e W4 ⟨rfl, h, q1, q2, q3⟩
            refine hK.out _ _ ⟨q1, q2, q3, h⟩ (fun hHeld => ?_)
            clear hK
            try simp only [Act.put, List.setIfInBounds_toArray, List.set_cons_zero, List.set_cons_succ]
            refine wpAnyH_take (i := 5) (oi := (⟨some 23, .pick (.tmp 19) (.tmp 22) (.const (.bool false)), 4, "csp.go:74", #[⟨1, .data⟩, ⟨4, .data⟩], none⟩ : Oper)) (v := (.bool true)) rfl (by kernel_rfl) (by kernel_rfl) (by kernel_rfl) (fun _ _ _ h => h) (Or.inl ⟨by rfl, ?_⟩) hHeld ?_
            · (intro W hSw; obtain ⟨z1, z2, z3, z4⟩ := hSw; clear hHeld; first | (go_simp; done) | (go_simp; with_reducible rfl) | (go_simp; simp [hq3]; done))
            try simp only [Act.put, List.setIfInBounds_toArray, List.set_cons_zero, List.set_cons_succ]
            refine wpAnyH_take (i := 6) (oi := (⟨some 24, .move (.tmp 23), 4, "csp.go:74", #[⟨5, .data⟩, ⟨4, .chain⟩], none⟩ : Oper)) (v := (.bool true)) rfl (by kernel_rfl) (by kernel_rfl) (by kernel_rfl) (fun _ _ _ h => h) (Or.inl ⟨by rfl, ?_⟩) hHeld ?_
            · (intro W hSw; obtain ⟨z1, z2, z3, z4⟩ := hSw; clear hHeld; first | (go_simp; done) | (go_simp; with_reducible rfl) | (go_simp; simp [hq3]; done))
            try simp only [Act.put, List.setIfInBounds_toArray, List.set_cons_zero, List.set_cons_succ]
            refine wpAnyH_take (i := 7) (oi := (⟨some 25, .fieldAddr 35 (.tmp 5) 0, 0, "csp.go:74", #[⟨6, .guard⟩], some (6, true)⟩ : Oper)) (v := (.pointer (some ⟨dB, 0, none⟩))) rfl (by kernel_rfl) (by kernel_rfl) (by kernel_rfl) (fun _ _ _ h => h) (Or.inl ⟨by rfl, ?_⟩) hHeld ?_
            · (intro W hSw; obtain ⟨z1, z2, z3, z4⟩ := hSw; clear hHeld; first | (go_simp; done) | (go_simp; with_reducible rfl) | (go_simp; simp [hq3]; done))
            try simp only [Act.put, List.setIfInBounds_toArray, List.set_cons_zero, List.set_cons_succ]
            refine wpAnyH_take (i := 8) (oi := (⟨some 26, .load 9 (.tmp 25), 9, "csp.go:74", #[⟨7, .data⟩, ⟨6, .guard⟩], some (6, true)⟩ : Oper)) (v := (.string x)) rfl (by kernel_rfl) (by kernel_rfl) (by kernel_rfl) (fun _ _ _ h => h) (Or.inl ⟨by rfl, ?_⟩) hHeld ?_
            · (intro W hSw; obtain ⟨z1, z2, z3, z4⟩ := hSw; clear hHeld; first | (go_simp; done) | (go_simp; with_reducible rfl) | (go_simp; simp [hq3]; done))
            try simp only [Act.put, List.setIfInBounds_toArray, List.set_cons_zero, List.set_cons_succ]
            refine wpAnyH_take (i := 10) (oi := (⟨some 28, .fieldAddr 35 (.tmp 5) 0, 0, "csp.go:74", #[⟨6, .guard⟩], some (6, true)⟩ : Oper)) (v := (.pointer (some ⟨dB, 0, none⟩))) rfl (by kernel_rfl) (by kernel_rfl) (by kernel_rfl) (fun _ _ _ h => h) (Or.inl ⟨by rfl, ?_⟩) hHeld ?_
            · (intro W hSw; obtain ⟨z1, z2, z3, z4⟩ := hSw; clear hHeld; first | (go_simp; done) | (go_simp; with_reducible rfl) | (go_simp; simp [hq3]; done))
            try simp only [Act.put, List.setIfInBounds_toArray, List.set_cons_zero, List.set_cons_succ]
            refine wpAnyH_take (i := 11) (oi := (⟨some 29, .load 9 (.tmp 28), 9, "csp.go:74", #[⟨10, .data⟩, ⟨6, .guard⟩], some (6, true)⟩ : Oper)) (v := (.string x)) rfl (by kernel_rfl) (by kernel_rfl) (by kernel_rfl) (fun _ _ _ h => h) (Or.inl ⟨by rfl, ?_⟩) hHeld ?_
            · (intro W hSw; obtain ⟨z1, z2, z3, z4⟩ := hSw; clear hHeld; first | (go_simp; done) | (go_simp; with_reducible rfl) | (go_simp; simp [hq3]; done))
            try simp only [Act.put, List.setIfInBounds_toArray, List.set_cons_zero, List.set_cons_succ]
            refine wpAnyH_ready (rs := [9]) (by kernel_rfl) (by simp) (AllReadyH.cons rfl (fun K hK => ?_) AllReadyH.nil)
            go_simp
            refine (hlw _ hHeld.2.2.2).mono ?_
            rintro e W9 ⟨rfl, h, q1, q2, q3⟩
            refine hK.out _ _ ⟨q1, q2, q3, h⟩ (fun hHeld => ?_)
            clear hK
            try simp only [Act.put, List.setIfInBounds_toArray, List.set_cons_zero, List.set_cons_succ]
            refine wpAnyH_take (i := 12) (oi := ({ dst := some 30, op := Go.Op.binOp Go.BinOp.eql 9 (Go.Operand.tmp 27) (Go.Operand.tmp 29) 9, type := 4, pos := "csp.go:74", after := #[{ on := 9, ground := Go.Ground.data }, { on := 11, ground := Go.Ground.data }, { on := 6, ground := Go.Ground.guard }], guard := some (6, true) } : Oper)) (v := (.bool false)) rfl (by kernel_rfl) (by kernel_rfl) (by kernel_rfl) (fun _ _ _ h => h) (Or.inl ⟨by rfl, ?_⟩) hHeld ?_
            · (intro W hSw; obtain ⟨z1, z2, z3, z4⟩ := hSw; clear hHeld; first | (go_simp; done) | (go_simp; with_reducible rfl) | (go_simp; simp [hq3]; done))
            try simp only [Act.put, List.setIfInBounds_toArray, List.set_cons_zero, List.set_cons_succ]
            refine wpAnyH_take (i := 13) (oi := (⟨some 31, .pick (.tmp 24) (.tmp 30) (.const (.bool false)), 4, "csp.go:74", #[⟨6, .data⟩, ⟨12, .data⟩], none⟩ : Oper)) (v := (.bool false)) rfl (by kernel_rfl) (by kernel_rfl) (by kernel_rfl) (fun _ _ _ h => h) (Or.inl ⟨by rfl, ?_⟩) hHeld ?_
            · (intro W hSw; obtain ⟨z1, z2, z3, z4⟩ := hSw; clear hHeld; first | (go_simp; done) | (go_simp; with_reducible rfl) | (go_simp; simp [hq3]; done))
            try simp only [Act.put, List.setIfInBounds_toArray, List.set_cons_zero, List.set_cons_succ]
            refine wpAnyH_take (i := 14) (oi := (⟨some 32, .move (.tmp 31), 4, "csp.go:74", #[⟨13, .data⟩, ⟨9, .chain⟩], none⟩ : Oper)) (v := (.bool false)) rfl (by kernel_rfl) (by kernel_rfl) (by kernel_rfl) (fun _ _ _ h => h) (Or.inl ⟨by rfl, ?_⟩) hHeld ?_
            · (intro W hSw; obtain ⟨z1, z2, z3, z4⟩ := hSw; clear hHeld; first | (go_simp; done) | (go_simp; with_reducible rfl) | (go_simp; simp [hq3]; done))
            try simp only [Act.put, List.setIfInBounds_toArray, List.set_cons_zero, List.set_cons_succ]
            refine wpAnyH_take (i := 15) (oi := (⟨some 33, .fieldAddr 35 (.tmp 5) 1, 0, "csp.go:74", #[⟨14, .guard⟩], some (14, true)⟩ : Oper)) (v := undef) rfl (by kernel_rfl) (by kernel_rfl) (by kernel_rfl) (fun _ _ _ h => h) (Or.inr ⟨by rfl, rfl⟩) hHeld ?_
            try simp only [Act.put, List.setIfInBounds_toArray, List.set_cons_zero, List.set_cons_succ]
            refine wpAnyH_take (i := 16) (oi := (⟨some 34, .load 33 (.tmp 33), 33, "csp.go:74", #[⟨15, .data⟩, ⟨14, .guard⟩], some (14, true)⟩ : Oper)) (v := undef) rfl (by kernel_rfl) (by kernel_rfl) (by kernel_rfl) (fun _ _ _ h => h) (Or.inr ⟨by rfl, rfl⟩) hHeld ?_
            try simp only [Act.put, List.setIfInBounds_toArray, List.set_cons_zero, List.set_cons_succ]
            refine wpAnyH_take (i := 17) (oi := ({ dst := some 35, op := Go.Op.call { callee := Go.Callee.builtin Go.Builtin.len, args := #[Go.Operand.tmp 34], argTypes := #[33] }, type := 3, pos := "csp.go:74", after := #[{ on := 16, ground := Go.Ground.data }, { on := 14, ground := Go.Ground.guard }], guard := some (14, true) } : Oper)) (v := undef) rfl (by kernel_rfl) (by kernel_rfl) (by kernel_rfl) (fun _ _ _ h => h) (Or.inr ⟨by rfl, rfl⟩) hHeld ?_
            try simp only [Act.put, List.setIfInBounds_toArray, List.set_cons_zero, List.set_cons_succ]
            refine wpAnyH_take (i := 18) (oi := ({ dst := some 36, op := Go.Op.binOp Go.BinOp.leq 3 (Go.Operand.tmp 35) (Go.Operand.const (Go.Value.int Go.IntKind.i64 64)) 3, type := 4, pos := "csp.go:74", after := #[{ on := 17, ground := Go.Ground.data }, { on := 14, ground := Go.Ground.guard }], guard := some (14, true) } : Oper)) (v := undef) rfl (by kernel_rfl) (by kernel_rfl) (by kernel_rfl) (fun _ _ _ h => h) (Or.inr ⟨by rfl, rfl⟩) hHeld ?_
            try simp only [Act.put, List.setIfInBounds_toArray, List.set_cons_zero, List.set_cons_succ]
            refine wpAnyH_take (i := 19) (oi := (⟨some 37, .pick (.tmp 32) (.tmp 36) (.const (.bool false)), 4, "csp.go:74", #[⟨14, .data⟩, ⟨18, .data⟩], none⟩ : Oper)) (v := (.bool false)) rfl (by kernel_rfl) (by kernel_rfl) (by kernel_rfl) (fun _ _ _ h => h) (Or.inl ⟨by rfl, ?_⟩) hHeld ?_
            · (intro W hSw; obtain ⟨z1, z2, z3, z4⟩ := hSw; clear hHeld; first | (go_simp; done) | (go_simp; with_reducible rfl) | (go_simp; simp [hq3]; done))
            try simp only [Act.put, List.setIfInBounds_toArray, List.set_cons_zero, List.set_cons_succ]
            refine wpAnyH_take (i := 20) (oi := (⟨some 38, .move (.tmp 37), 4, "csp.go:74", #[⟨19, .data⟩, ⟨14, .chain⟩], none⟩ : Oper)) (v := (.bool false)) rfl (by kernel_rfl) (by kernel_rfl) (by kernel_rfl) (fun _ _ _ h => h) (Or.inl ⟨by rfl, ?_⟩) hHeld ?_
            · (intro W hSw; obtain ⟨z1, z2, z3, z4⟩ := hSw; clear hHeld; first | (go_simp; done) | (go_simp; with_reducible rfl) | (go_simp; simp [hq3]; done))
            try simp only [Act.put, List.setIfInBounds_toArray, List.set_cons_zero, List.set_cons_succ]
            refine wpAnyH_take (i := 21) (oi := (⟨some 39, .fieldAddr 25 (.tmp 1) 0, 0, "csp.go:74", #[⟨20, .guard⟩], some (20, true)⟩ : Oper)) (v := undef) rfl (by kernel_rfl) (by kernel_rfl) (by kernel_rfl) (fun _ _ _ h => h) (Or.inr ⟨by rfl, rfl⟩) hHeld ?_
            try simp only [Act.put, List.setIfInBounds_toArray, List.set_cons_zero, List.set_cons_succ]
            refine wpAnyH_take (i := 22) (oi := (⟨some 40, .load 23 (.tmp 39), 23, "csp.go:74", #[⟨21, .data⟩, ⟨20, .guard⟩], some (20, true)⟩ : Oper)) (v := undef) rfl (by kernel_rfl) (by kernel_rfl) (by kernel_rfl) (fun _ _ _ h => h) (Or.inr ⟨by rfl, rfl⟩) hHeld ?_
            try simp only [Act.put, List.setIfInBounds_toArray, List.set_cons_zero, List.set_cons_succ]
            refine wpAnyH_take (i := 23) (oi := (⟨some 41, .move (.tmp 4), 3, "csp.go:74", #[⟨20, .guard⟩], some (20, true)⟩ : Oper)) (v := undef) rfl (by kernel_rfl) (by kernel_rfl) (by kernel_rfl) (fun _ _ _ h => h) (Or.inr ⟨by rfl, rfl⟩) hHeld ?_
            try simp only [Act.put, List.setIfInBounds_toArray, List.set_cons_zero, List.set_cons_succ]
            refine wpAnyH_take (i := 24) (oi := (⟨some 42, .slice 23 (.tmp 40) none (some (.tmp 41)) none, 23, "csp.go:74", #[⟨22, .data⟩, ⟨23, .data⟩, ⟨20, .guard⟩], some (20, true)⟩ : Oper)) (v := undef) rfl (by kernel_rfl) (by kernel_rfl) (by kernel_rfl) (fun _ _ _ h => h) (Or.inr ⟨by rfl, rfl⟩) hHeld ?_
            try simp only [Act.put, List.setIfInBounds_toArray, List.set_cons_zero, List.set_cons_succ]
            refine wpAnyH_take (i := 25) (oi := (⟨some 43, .fieldAddr 35 (.tmp 5) 0, 0, "csp.go:74", #[⟨20, .guard⟩], some (20, true)⟩ : Oper)) (v := undef) rfl (by kernel_rfl) (by kernel_rfl) (by kernel_rfl) (fun _ _ _ h => h) (Or.inr ⟨by rfl, rfl⟩) hHeld ?_
            try simp only [Act.put, List.setIfInBounds_toArray, List.set_cons_zero, List.set_cons_succ]
            refine wpAnyH_take (i := 26) (oi := (⟨some 44, .load 9 (.tmp 43), 9, "csp.go:74", #[⟨25, .data⟩, ⟨20, .guard⟩], some (20, true)⟩ : Oper)) (v := undef) rfl (by kernel_rfl) (by kernel_rfl) (by kernel_rfl) (fun _ _ _ h => h) (Or.inr ⟨by rfl, rfl⟩) hHeld ?_
            try simp only [Act.put, List.setIfInBounds_toArray, List.set_cons_zero, List.set_cons_succ]
            refine wpAnyH_take (i := 27) (oi := ({ dst := some 45, op := Go.Op.call { callee := Go.Callee.value (Go.Operand.func 35), args := #[Go.Operand.tmp 44], argTypes := #[9] }, type := 65, pos := "csp.go:74", after := #[{ on := 26, ground := Go.Ground.data }, { on := 20, ground := Go.Ground.chain }, { on := 20, ground := Go.Ground.guard }], guard := some (20, true) } : Oper)) (v := undef) rfl (by kernel_rfl) (by kernel_rfl) (by kernel_rfl) (fun _ _ _ h => h) (Or.inr ⟨by rfl, rfl⟩) hHeld ?_
            try simp only [Act.put, List.setIfInBounds_toArray, List.set_cons_zero, List.set_cons_succ]
            refine wpAnyH_take (i := 28) (oi := ({ dst := some 46, op := Go.Op.call { callee := Go.Callee.value (Go.Operand.func 34), args := #[Go.Operand.tmp 42, Go.Operand.tmp 45], argTypes := #[23, 65] }, type := 4, pos := "csp.go:74", after := #[{ on := 24, ground := Go.Ground.data }, { on := 27, ground := Go.Ground.data }, { on := 27, ground := Go.Ground.chain }, { on := 20, ground := Go.Ground.guard }], guard := some (20, true) } : Oper)) (v := undef) rfl (by kernel_rfl) (by kernel_rfl) (by kernel_rfl) (fun _ _ _ h => h) (Or.inr ⟨by rfl, rfl⟩) hHeld ?_
            try simp only [Act.put, List.setIfInBounds_toArray, List.set_cons_zero, List.set_cons_succ]
            refine wpAnyH_take (i := 29) (oi := ({ dst := some 47, op := Go.Op.unOp Go.UnOp.not 4 (Go.Operand.tmp 46), type := 4, pos := "csp.go:74", after := #[{ on := 28, ground := Go.Ground.data }, { on := 20, ground := Go.Ground.guard }], guard := some (20, true) } : Oper)) (v := undef) rfl (by kernel_rfl) (by kernel_rfl) (by kernel_rfl) (fun _ _ _ h => h) (Or.inr ⟨by rfl, rfl⟩) hHeld ?_
            try simp only [Act.put, List.setIfInBounds_toArray, List.set_cons_zero, List.set_cons_succ]
            refine wpAnyH_take (i := 30) (oi := (⟨some 48, .pick (.tmp 38) (.tmp 47) (.const (.bool false)), 4, "csp.go:74", #[⟨20, .data⟩, ⟨29, .data⟩], none⟩ : Oper)) (v := (.bool false)) rfl (by kernel_rfl) (by kernel_rfl) (by kernel_rfl) (fun _ _ _ h => h) (Or.inl ⟨by rfl, ?_⟩) hHeld ?_
            · (intro W hSw; obtain ⟨z1, z2, z3, z4⟩ := hSw; clear hHeld; first | (go_simp; done) | (go_simp; with_reducible rfl) | (go_simp; simp [hq3]; done))
            try simp only [Act.put, List.setIfInBounds_toArray, List.set_cons_zero, List.set_cons_succ]
            refine wpAnyH_take (i := 31) (oi := (⟨some 3, .assign (.tmp 48), 4, "csp.go:74", #[⟨30, .data⟩, ⟨28, .chain⟩, ⟨0, .phase⟩, ⟨1, .phase⟩, ⟨2, .phase⟩, ⟨3, .phase⟩, ⟨4, .phase⟩, ⟨5, .phase⟩, ⟨6, .phase⟩, ⟨7, .phase⟩, ⟨8, .phase⟩, ⟨9, .phase⟩, ⟨10, .phase⟩, ⟨11, .phase⟩, ⟨12, .phase⟩, ⟨13, .phase⟩, ⟨14, .phase⟩, ⟨15, .phase⟩, ⟨16, .phase⟩, ⟨17, .phase⟩, ⟨18, .phase⟩, ⟨19, .phase⟩, ⟨20, .phase⟩, ⟨21, .phase⟩, ⟨22, .phase⟩, ⟨23, .phase⟩, ⟨24, .phase⟩, ⟨25, .phase⟩, ⟨26, .phase⟩, ⟨27, .phase⟩, ⟨28, .phase⟩, ⟨29, .phase⟩, ⟨30, .phase⟩], none⟩ : Oper)) (v := (.bool false)) rfl (by kernel_rfl) (by kernel_rfl) (by kernel_rfl) (fun _ _ _ h => h) (Or.inl ⟨by rfl, ?_⟩) hHeld ?_
            · (intro W hSw; obtain ⟨z1, z2, z3, z4⟩ := hSw; clear hHeld; first | (go_simp; done) | (go_simp; with_reducible rfl) | (go_simp; simp [hq3]; done))
            try simp only [Act.put, List.setIfInBounds_toArray, List.set_cons_zero, List.set_cons_succ]
            refine wpAnyH_done (by kernel_rfl) ?_ _
            go_wp2
            go_roundg (n - (k + 1))
            case measure => omega
            case rel => exact ⟨k + 1, by omega, by omega, by go_num, by rw [hokn], Lib.hid (BW.out.trans ((HB5.out.trans (Below.mono hHeld.2.2.2.out HB5.out.size)).mono BW.out.size)), Lib.hid (blk_keep HP5.out hHeld.2.2.2.out)⟩
          | true =>
            rcases hb3 with ⟨hb3, hq3⟩ | ⟨hb3, hq3⟩
            · cases b4 with
              | true =>
                have hokn : okAt l (k + 1) = false := by rw [hok1, hb3]; rfl
                refine wp_region_held_drew (S := (fun W' => W'.cell? ⟨w.heap.size, 0, none⟩ = some (.slice (some ad) n c) ∧ W'.cell? ⟨dB, 0, none⟩ = some (.string x) ∧ W'.cell? ⟨dB, 1, none⟩ = some (.slice A1 vs.length c1) ∧ Hid (Below w5.heap.size w5 W'))) (by kernel_rfl) ⟨p6, d6, e6, hB6⟩ (fun hHeld => ?_)
                refine wpAnyH_take (i := 0) (oi := (⟨some 18, .move (.tmp 3), 4, "csp.go:74", #[], none⟩ : Oper)) (v := (.bool true)) rfl (by kernel_rfl) (by kernel_rfl) (by kernel_rfl) (fun _ _ _ h => h) (Or.inl ⟨by rfl, ?_⟩) hHeld ?_
                · (intro W hSw; obtain ⟨z1, z2, z3, z4⟩ := hSw; clear hHeld; first | (go_simp; done) | (go_simp; with_reducible rfl) | (go_simp; simp [hq3]; done))
                try simp only [Act.put, List.setIfInBounds_toArray, List.set_cons_zero, List.set_cons_succ]
                refine wpAnyH_take (i := 1) (oi := (⟨some 19, .move (.tmp 18), 4, "csp.go:74", #[⟨0, .data⟩], none⟩ : Oper)) (v := (.bool true)) rfl (by kernel_rfl) (by kernel_rfl) (by kernel_rfl) (fun _ _ _ h => h) (Or.inl ⟨by rfl, ?_⟩) hHeld ?_
                · (intro W hSw; obtain ⟨z1, z2, z3, z4⟩ := hSw; clear hHeld; first | (go_simp; done) | (go_simp; with_reducible rfl) | (go_simp; simp [hq3]; done))
                try simp only [Act.put, List.setIfInBounds_toArray, List.set_cons_zero, List.set_cons_succ]
                refine wpAnyH_take (i := 2) (oi := (⟨some 20, .fieldAddr 35 (.tmp 5) 0, 0, "csp.go:74", #[⟨1, .guard⟩], some (1, true)⟩ : Oper)) (v := (.pointer (some ⟨dB, 0, none⟩))) rfl (by kernel_rfl) (by kernel_rfl) (by kernel_rfl) (fun _ _ _ h => h) (Or.inl ⟨by rfl, ?_⟩) hHeld ?_
                · (intro W hSw; obtain ⟨z1, z2, z3, z4⟩ := hSw; clear hHeld; first | (go_simp; done) | (go_simp; with_reducible rfl) | (go_simp; simp [hq3]; done))
                try simp only [Act.put, List.setIfInBounds_toArray, List.set_cons_zero, List.set_cons_succ]
                refine wpAnyH_take (i := 3) (oi := (⟨some 21, .load 9 (.tmp 20), 9, "csp.go:74", #[⟨2, .data⟩, ⟨1, .guard⟩], some (1, true)⟩ : Oper)) (v := (.string x)) rfl (by kernel_rfl) (by kernel_rfl) (by kernel_rfl) (fun _ _ _ h => h) (Or.inl ⟨by rfl, ?_⟩) hHeld ?_
                · (intro W hSw; obtain ⟨z1, z2, z3, z4⟩ := hSw; clear hHeld; first | (go_simp; done) | (go_simp; with_reducible rfl) | (go_simp; simp [hq3]; done))
                try simp only [Act.put, List.setIfInBounds_toArray, List.set_cons_zero, List.set_cons_succ]
                refine wpAnyH_ready (rs := [4]) (by kernel_rfl) (by simp) (AllReadyH.cons rfl (fun K hK => ?_) AllReadyH.nil)
                go_simp
                refine (hwd _ hHeld.2.2.2).mono ?_
                rintro e W4 ⟨rfl, h, q1, q2, q3⟩
                refine hK.out _ _ ⟨q1, q2, q3, h⟩ (fun hHeld => ?_)
                clear hK
                try simp only [Act.put, List.setIfInBounds_toArray, List.set_cons_zero, List.set_cons_succ]
                refine wpAnyH_take (i := 5) (oi := (⟨some 23, .pick (.tmp 19) (.tmp 22) (.const (.bool false)), 4, "csp.go:74", #[⟨1, .data⟩, ⟨4, .data⟩], none⟩ : Oper)) (v := (.bool true)) rfl (by kernel_rfl) (by kernel_rfl) (by kernel_rfl) (fun _ _ _ h => h) (Or.inl ⟨by rfl, ?_⟩) hHeld ?_
                · (intro W hSw; obtain ⟨z1, z2, z3, z4⟩ := hSw; clear hHeld; first | (go_simp; done) | (go_simp; with_reducible rfl) | (go_simp; simp [hq3]; done))
                try simp only [Act.put, List.setIfInBounds_toArray, List.set_cons_zero, List.set_cons_succ]
                refine wpAnyH_take (i := 6) (oi := (⟨some 24, .move (.tmp 23), 4, "csp.go:74", #[⟨5, .data⟩, ⟨4, .chain⟩], none⟩ : Oper)) (v := (.bool true)) rfl (by kernel_rfl) (by kernel_rfl) (by kernel_rfl) (fun _ _ _ h => h) (Or.inl ⟨by rfl, ?_⟩) hHeld ?_
                · (intro W hSw; obtain ⟨z1, z2, z3, z4⟩ := hSw; clear hHeld; first | (go_simp; done) | (go_simp; with_reducible rfl) | (go_simp; simp [hq3]; done))
                try simp only [Act.put, List.setIfInBounds_toArray, List.set_cons_zero, List.set_cons_succ]
                refine wpAnyH_take (i := 7) (oi := (⟨some 25, .fieldAddr 35 (.tmp 5) 0, 0, "csp.go:74", #[⟨6, .guard⟩], some (6, true)⟩ : Oper)) (v := (.pointer (some ⟨dB, 0, none⟩))) rfl (by kernel_rfl) (by kernel_rfl) (by kernel_rfl) (fun _ _ _ h => h) (Or.inl ⟨by rfl, ?_⟩) hHeld ?_
                · (intro W hSw; obtain ⟨z1, z2, z3, z4⟩ := hSw; clear hHeld; first | (go_simp; done) | (go_simp; with_reducible rfl) | (go_simp; simp [hq3]; done))
                try simp only [Act.put, List.setIfInBounds_toArray, List.set_cons_zero, List.set_cons_succ]
                refine wpAnyH_take (i := 8) (oi := (⟨some 26, .load 9 (.tmp 25), 9, "csp.go:74", #[⟨7, .data⟩, ⟨6, .guard⟩], some (6, true)⟩ : Oper)) (v := (.string x)) rfl (by kernel_rfl) (by kernel_rfl) (by kernel_rfl) (fun _ _ _ h => h) (Or.inl ⟨by rfl, ?_⟩) hHeld ?_
                · (intro W hSw; obtain ⟨z1, z2, z3, z4⟩ := hSw; clear hHeld; first | (go_simp; done) | (go_simp; with_reducible rfl) | (go_simp; simp [hq3]; done))
                try simp only [Act.put, List.setIfInBounds_toArray, List.set_cons_zero, List.set_cons_succ]
                refine wpAnyH_take (i := 10) (oi := (⟨some 28, .fieldAddr 35 (.tmp 5) 0, 0, "csp.go:74", #[⟨6, .guard⟩], some (6, true)⟩ : Oper)) (v := (.pointer (some ⟨dB, 0, none⟩))) rfl (by kernel_rfl) (by kernel_rfl) (by kernel_rfl) (fun _ _ _ h => h) (Or.inl ⟨by rfl, ?_⟩) hHeld ?_
                · (intro W hSw; obtain ⟨z1, z2, z3, z4⟩ := hSw; clear hHeld; first | (go_simp; done) | (go_simp; with_reducible rfl) | (go_simp; simp [hq3]; done))
                try simp only [Act.put, List.setIfInBounds_toArray, List.set_cons_zero, List.set_cons_succ]
                refine wpAnyH_take (i := 11) (oi := (⟨some 29, .load 9 (.tmp 28), 9, "csp.go:74", #[⟨10, .data⟩, ⟨6, .guard⟩], some (6, true)⟩ : Oper)) (v := (.string x)) rfl (by kernel_rfl) (by kernel_rfl) (by kernel_rfl) (fun _ _ _ h => h) (Or.inl ⟨by rfl, ?_⟩) hHeld ?_
                · (intro W hSw; obtain ⟨z1, z2, z3, z4⟩ := hSw; clear hHeld; first | (go_simp; done) | (go_simp; with_reducible rfl) | (go_simp; simp [hq3]; done))
                try simp only [Act.put, List.setIfInBounds_toArray, List.set_cons_zero, List.set_cons_succ]
                refine wpAnyH_ready (rs := [9]) (by kernel_rfl) (by simp) (AllReadyH.cons rfl (fun K hK => ?_) AllReadyH.nil)
                go_simp
                refine (hlw _ hHeld.2.2.2).mono ?_
                rintro e W9 ⟨rfl, h, q1, q2, q3⟩
                refine hK.out _ _ ⟨q1, q2, q3, h⟩ (fun hHeld => ?_)
                clear hK
                try simp only [Act.put, List.setIfInBounds_toArray, List.set_cons_zero, List.set_cons_succ]
                refine wpAnyH_take (i := 12) (oi := ({ dst := some 30, op := Go.Op.binOp Go.BinOp.eql 9 (Go.Operand.tmp 27) (Go.Operand.tmp 29) 9, type := 4, pos := "csp.go:74", after := #[{ on := 9, ground := Go.Ground.data }, { on := 11, ground := Go.Ground.data }, { on := 6, ground := Go.Ground.guard }], guard := some (6, true) } : Oper)) (v := (.bool true)) rfl (by kernel_rfl) (by kernel_rfl) (by kernel_rfl) (fun _ _ _ h => h) (Or.inl ⟨by rfl, ?_⟩) hHeld ?_
                · (intro W hSw; obtain ⟨z1, z2, z3, z4⟩ := hSw; clear hHeld; first | (go_simp; done) | (go_simp; with_reducible rfl) | (go_simp; simp [hq3]; done))
                try simp only [Act.put, List.setIfInBounds_toArray, List.set_cons_zero, List.set_cons_succ]
                refine wpAnyH_take (i := 13) (oi := (⟨some 31, .pick (.tmp 24) (.tmp 30) (.const (.bool false)), 4, "csp.go:74", #[⟨6, .data⟩, ⟨12, .data⟩], none⟩ : Oper)) (v := (.bool true)) rfl (by kernel_rfl) (by kernel_rfl) (by kernel_rfl) (fun _ _ _ h => h) (Or.inl ⟨by rfl, ?_⟩) hHeld ?_
                · (intro W hSw; obtain ⟨z1, z2, z3, z4⟩ := hSw; clear hHeld; first | (go_simp; done) | (go_simp; with_reducible rfl) | (go_simp; simp [hq3]; done))
                try simp only [Act.put, List.setIfInBounds_toArray, List.set_cons_zero, List.set_cons_succ]
                refine wpAnyH_take (i := 14) (oi := (⟨some 32, .move (.tmp 31), 4, "csp.go:74", #[⟨13, .data⟩, ⟨9, .chain⟩], none⟩ : Oper)) (v := (.bool true)) rfl (by kernel_rfl) (by kernel_rfl) (by kernel_rfl) (fun _ _ _ h => h) (Or.inl ⟨by rfl, ?_⟩) hHeld ?_
                · (intro W hSw; obtain ⟨z1, z2, z3, z4⟩ := hSw; clear hHeld; first | (go_simp; done) | (go_simp; with_reducible rfl) | (go_simp; simp [hq3]; done))
                try simp only [Act.put, List.setIfInBounds_toArray, List.set_cons_zero, List.set_cons_succ]
                refine wpAnyH_take (i := 15) (oi := (⟨some 33, .fieldAddr 35 (.tmp 5) 1, 0, "csp.go:74", #[⟨14, .guard⟩], some (14, true)⟩ : Oper)) (v := (.pointer (some ⟨dB, 1, none⟩))) rfl (by kernel_rfl) (by kernel_rfl) (by kernel_rfl) (fun _ _ _ h => h) (Or.inl ⟨by rfl, ?_⟩) hHeld ?_
                · (intro W hSw; obtain ⟨z1, z2, z3, z4⟩ := hSw; clear hHeld; first | (go_simp; done) | (go_simp; with_reducible rfl) | (go_simp; simp [hq3]; done))
                try simp only [Act.put, List.setIfInBounds_toArray, List.set_cons_zero, List.set_cons_succ]
                refine wpAnyH_take (i := 16) (oi := (⟨some 34, .load 33 (.tmp 33), 33, "csp.go:74", #[⟨15, .data⟩, ⟨14, .guard⟩], some (14, true)⟩ : Oper)) (v := (.slice A1 vs.length c1)) rfl (by kernel_rfl) (by kernel_rfl) (by kernel_rfl) (fun _ _ _ h => h) (Or.inl ⟨by rfl, ?_⟩) hHeld ?_
                · (intro W hSw; obtain ⟨z1, z2, z3, z4⟩ := hSw; clear hHeld; first | (go_simp; done) | (go_simp; with_reducible rfl) | (go_simp; simp [hq3]; done))
                try simp only [Act.put, List.setIfInBounds_toArray, List.set_cons_zero, List.set_cons_succ]
                refine wpAnyH_take (i := 17) (oi := ({ dst := some 35, op := Go.Op.call { callee := Go.Callee.builtin Go.Builtin.len, args := #[Go.Operand.tmp 34], argTypes := #[33] }, type := 3, pos := "csp.go:74", after := #[{ on := 16, ground := Go.Ground.data }, { on := 14, ground := Go.Ground.guard }], guard := some (14, true) } : Oper)) (v := (.int .i64 vs.length)) rfl (by kernel_rfl) (by kernel_rfl) (by kernel_rfl) (fun _ _ _ h => h) (Or.inl ⟨by rfl, ?_⟩) hHeld ?_
                · (intro W hSw; obtain ⟨z1, z2, z3, z4⟩ := hSw; clear hHeld; first | (go_simp; done) | (go_simp; with_reducible rfl) | (go_simp; simp [hq3]; done))
                try simp only [Act.put, List.setIfInBounds_toArray, List.set_cons_zero, List.set_cons_succ]
                refine wpAnyH_take (i := 18) (oi := ({ dst := some 36, op := Go.Op.binOp Go.BinOp.leq 3 (Go.Operand.tmp 35) (Go.Operand.const (Go.Value.int Go.IntKind.i64 64)) 3, type := 4, pos := "csp.go:74", after := #[{ on := 17, ground := Go.Ground.data }, { on := 14, ground := Go.Ground.guard }], guard := some (14, true) } : Oper)) (v := (.bool true)) rfl (by kernel_rfl) (by kernel_rfl) (by kernel_rfl) (fun _ _ _ h => h) (Or.inl ⟨by rfl, ?_⟩) hHeld ?_
                · (intro W hSw; obtain ⟨z1, z2, z3, z4⟩ := hSw; clear hHeld; first | (go_simp; done) | (go_simp; with_reducible rfl) | (go_simp; simp [hq3]; done))
                try simp only [Act.put, List.setIfInBounds_toArray, List.set_cons_zero, List.set_cons_succ]
                refine wpAnyH_take (i := 19) (oi := (⟨some 37, .pick (.tmp 32) (.tmp 36) (.const (.bool false)), 4, "csp.go:74", #[⟨14, .data⟩, ⟨18, .data⟩], none⟩ : Oper)) (v := (.bool true)) rfl (by kernel_rfl) (by kernel_rfl) (by kernel_rfl) (fun _ _ _ h => h) (Or.inl ⟨by rfl, ?_⟩) hHeld ?_
                · (intro W hSw; obtain ⟨z1, z2, z3, z4⟩ := hSw; clear hHeld; first | (go_simp; done) | (go_simp; with_reducible rfl) | (go_simp; simp [hq3]; done))
                try simp only [Act.put, List.setIfInBounds_toArray, List.set_cons_zero, List.set_cons_succ]
                refine wpAnyH_take (i := 20) (oi := (⟨some 38, .move (.tmp 37), 4, "csp.go:74", #[⟨19, .data⟩, ⟨14, .chain⟩], none⟩ : Oper)) (v := (.bool true)) rfl (by kernel_rfl) (by kernel_rfl) (by kernel_rfl) (fun _ _ _ h => h) (Or.inl ⟨by rfl, ?_⟩) hHeld ?_
                · (intro W hSw; obtain ⟨z1, z2, z3, z4⟩ := hSw; clear hHeld; first | (go_simp; done) | (go_simp; with_reducible rfl) | (go_simp; simp [hq3]; done))
                try simp only [Act.put, List.setIfInBounds_toArray, List.set_cons_zero, List.set_cons_succ]
                refine wpAnyH_take (i := 21) (oi := (⟨some 39, .fieldAddr 25 (.tmp 1) 0, 0, "csp.go:74", #[⟨20, .guard⟩], some (20, true)⟩ : Oper)) (v := (.pointer (some ⟨w.heap.size, 0, none⟩))) rfl (by kernel_rfl) (by kernel_rfl) (by kernel_rfl) (fun _ _ _ h => h) (Or.inl ⟨by rfl, ?_⟩) hHeld ?_
                · (intro W hSw; obtain ⟨z1, z2, z3, z4⟩ := hSw; clear hHeld; first | (go_simp; done) | (go_simp; with_reducible rfl) | (go_simp; simp [hq3]; done))
                try simp only [Act.put, List.setIfInBounds_toArray, List.set_cons_zero, List.set_cons_succ]
                refine wpAnyH_take (i := 22) (oi := (⟨some 40, .load 23 (.tmp 39), 23, "csp.go:74", #[⟨21, .data⟩, ⟨20, .guard⟩], some (20, true)⟩ : Oper)) (v := (.slice (some ad) n c)) rfl (by kernel_rfl) (by kernel_rfl) (by kernel_rfl) (fun _ _ _ h => h) (Or.inl ⟨by rfl, ?_⟩) hHeld ?_
                · (intro W hSw; obtain ⟨z1, z2, z3, z4⟩ := hSw; clear hHeld; first | (go_simp; done) | (go_simp; with_reducible rfl) | (go_simp; simp [hq3]; done))
                try simp only [Act.put, List.setIfInBounds_toArray, List.set_cons_zero, List.set_cons_succ]
                refine wpAnyH_take (i := 23) (oi := (⟨some 41, .move (.tmp 4), 3, "csp.go:74", #[⟨20, .guard⟩], some (20, true)⟩ : Oper)) (v := (.int .i64 k)) rfl (by kernel_rfl) (by kernel_rfl) (by kernel_rfl) (fun _ _ _ h => h) (Or.inl ⟨by rfl, ?_⟩) hHeld ?_
                · (intro W hSw; obtain ⟨z1, z2, z3, z4⟩ := hSw; clear hHeld; first | (go_simp; done) | (go_simp; with_reducible rfl) | (go_simp; simp [hq3]; done))
                try simp only [Act.put, List.setIfInBounds_toArray, List.set_cons_zero, List.set_cons_succ]
                refine wpAnyH_take (i := 24) (oi := (⟨some 42, .slice 23 (.tmp 40) none (some (.tmp 41)) none, 23, "csp.go:74", #[⟨22, .data⟩, ⟨23, .data⟩, ⟨20, .guard⟩], some (20, true)⟩ : Oper)) (v := (.slice (some ad) k c)) rfl (by kernel_rfl) (by kernel_rfl) (by kernel_rfl) (fun _ _ _ h => h) (Or.inl ⟨by rfl, ?_⟩) hHeld ?_
                · (intro W hSw; obtain ⟨z1, z2, z3, z4⟩ := hSw; clear hHeld; first | (go_simp; done) | (go_simp; with_reducible rfl) | (go_simp; simp [hq3]; done))
                try simp only [Act.put, List.setIfInBounds_toArray, List.set_cons_zero, List.set_cons_succ]
                refine wpAnyH_take (i := 25) (oi := (⟨some 43, .fieldAddr 35 (.tmp 5) 0, 0, "csp.go:74", #[⟨20, .guard⟩], some (20, true)⟩ : Oper)) (v := (.pointer (some ⟨dB, 0, none⟩))) rfl (by kernel_rfl) (by kernel_rfl) (by kernel_rfl) (fun _ _ _ h => h) (Or.inl ⟨by rfl, ?_⟩) hHeld ?_
                · (intro W hSw; obtain ⟨z1, z2, z3, z4⟩ := hSw; clear hHeld; first | (go_simp; done) | (go_simp; with_reducible rfl) | (go_simp; simp [hq3]; done))
                try simp only [Act.put, List.setIfInBounds_toArray, List.set_cons_zero, List.set_cons_succ]
                refine wpAnyH_take (i := 26) (oi := (⟨some 44, .load 9 (.tmp 43), 9, "csp.go:74", #[⟨25, .data⟩, ⟨20, .guard⟩], some (20, true)⟩ : Oper)) (v := (.string x)) rfl (by kernel_rfl) (by kernel_rfl) (by kernel_rfl) (fun _ _ _ h => h) (Or.inl ⟨by rfl, ?_⟩) hHeld ?_
                · (intro W hSw; obtain ⟨z1, z2, z3, z4⟩ := hSw; clear hHeld; first | (go_simp; done) | (go_simp; with_reducible rfl) | (go_simp; simp [hq3]; done))
                try simp only [Act.put, List.setIfInBounds_toArray, List.set_cons_zero, List.set_cons_succ]
                refine wpAnyH_ready (rs := [27]) (by kernel_rfl) (by simp) (AllReadyH.cons rfl (fun K hK => ?_) AllReadyH.nil)
                go_simp
                refine (hnm _ hHeld.2.2.2).mono ?_
                rintro e W27 ⟨b, rfl, hbc, h, q1, q2, q3⟩
                refine hK.out _ _ ⟨q1, q2, q3, h⟩ (fun hHeld => ?_)
                clear hK
                try simp only [Act.put, List.setIfInBounds_toArray, List.set_cons_zero, List.set_cons_succ]
                refine wpAnyH_ready (rs := [28]) (by kernel_rfl) (by simp) (AllReadyH.cons rfl (fun K hK => ?_) AllReadyH.nil)
                go_simp
                refine (hhas _ b hHeld.2.2.2 hbc.out).mono ?_
                rintro e W28 ⟨rfl, h, q1, q2, q3⟩
                refine hK.out _ _ ⟨q1, q2, q3, h⟩ (fun hHeld => ?_)
                clear hK
                try simp only [Act.put, List.setIfInBounds_toArray, List.set_cons_zero, List.set_cons_succ]
                refine wpAnyH_take (i := 29) (oi := ({ dst := some 47, op := Go.Op.unOp Go.UnOp.not 4 (Go.Operand.tmp 46), type := 4, pos := "csp.go:74", after := #[{ on := 28, ground := Go.Ground.data }, { on := 20, ground := Go.Ground.guard }], guard := some (20, true) } : Oper)) (v := (.bool false)) rfl (by kernel_rfl) (by kernel_rfl) (by kernel_rfl) (fun _ _ _ h => h) (Or.inl ⟨by rfl, ?_⟩) hHeld ?_
                · (intro W hSw; obtain ⟨z1, z2, z3, z4⟩ := hSw; clear hHeld; first | (go_simp; done) | (go_simp; with_reducible rfl) | (go_simp; simp [hq3]; done))
                try simp only [Act.put, List.setIfInBounds_toArray, List.set_cons_zero, List.set_cons_succ]
                refine wpAnyH_take (i := 30) (oi := (⟨some 48, .pick (.tmp 38) (.tmp 47) (.const (.bool false)), 4, "csp.go:74", #[⟨20, .data⟩, ⟨29, .data⟩], none⟩ : Oper)) (v := (.bool false)) rfl (by kernel_rfl) (by kernel_rfl) (by kernel_rfl) (fun _ _ _ h => h) (Or.inl ⟨by rfl, ?_⟩) hHeld ?_
                · (intro W hSw; obtain ⟨z1, z2, z3, z4⟩ := hSw; clear hHeld; first | (go_simp; done) | (go_simp; with_reducible rfl) | (go_simp; simp [hq3]; done))
                try simp only [Act.put, List.setIfInBounds_toArray, List.set_cons_zero, List.set_cons_succ]
                refine wpAnyH_take (i := 31) (oi := (⟨some 3, .assign (.tmp 48), 4, "csp.go:74", #[⟨30, .data⟩, ⟨28, .chain⟩, ⟨0, .phase⟩, ⟨1, .phase⟩, ⟨2, .phase⟩, ⟨3, .phase⟩, ⟨4, .phase⟩, ⟨5, .phase⟩, ⟨6, .phase⟩, ⟨7, .phase⟩, ⟨8, .phase⟩, ⟨9, .phase⟩, ⟨10, .phase⟩, ⟨11, .phase⟩, ⟨12, .phase⟩, ⟨13, .phase⟩, ⟨14, .phase⟩, ⟨15, .phase⟩, ⟨16, .phase⟩, ⟨17, .phase⟩, ⟨18, .phase⟩, ⟨19, .phase⟩, ⟨20, .phase⟩, ⟨21, .phase⟩, ⟨22, .phase⟩, ⟨23, .phase⟩, ⟨24, .phase⟩, ⟨25, .phase⟩, ⟨26, .phase⟩, ⟨27, .phase⟩, ⟨28, .phase⟩, ⟨29, .phase⟩, ⟨30, .phase⟩], none⟩ : Oper)) (v := (.bool false)) rfl (by kernel_rfl) (by kernel_rfl) (by kernel_rfl) (fun _ _ _ h => h) (Or.inl ⟨by rfl, ?_⟩) hHeld ?_
                · (intro W hSw; obtain ⟨z1, z2, z3, z4⟩ := hSw; clear hHeld; first | (go_simp; done) | (go_simp; with_reducible rfl) | (go_simp; simp [hq3]; done))
                try simp only [Act.put, List.setIfInBounds_toArray, List.set_cons_zero, List.set_cons_succ]
                refine wpAnyH_done (by kernel_rfl) ?_ _
                go_wp2
                go_roundg (n - (k + 1))
                case measure => omega
                case rel => exact ⟨k + 1, by omega, by omega, by go_num, by rw [hokn], Lib.hid (BW.out.trans ((HB5.out.trans (Below.mono hHeld.2.2.2.out HB5.out.size)).mono BW.out.size)), Lib.hid (blk_keep HP5.out hHeld.2.2.2.out)⟩
              | false =>
                have hokn : okAt l (k + 1) = !(vs.any fun v => !wordV v) := by rw [hok1, hb3]; rfl
                have hbad : ∀ (W : World), Below w5.heap.size w5 W → Calls Tryz.prog 38 #[.slice A1 vs.length c1, .func (.func 39) #[] #[]] W fun e W' => e = .returned (.bool (vs.any fun v => !wordV v)) ∧ Hid (Below w5.heap.size w5 W') := fun W hW =>
                  (strHas_calls A1 c1 vs (fun v => !wordV v) 39 #[] (enters_of Tryz.func39 (by kernel_rfl) rfl) W (by omega) (Kd.C_below HC1.out (HB5.out.trans (hW.mono HB5.out.size)))
                    (fun W2 y hy _ => bad1_calls y (wordV y) W2 (word_f y (of_decide_eq_true (List.all_eq_true.1 HVS.out y hy))))).mono (by
                    rintro e W' ⟨rfl, h⟩
                    exact ⟨rfl, Lib.hid (hW.trans (h.mono hW.size))⟩)
                refine wp_region_held_drew (S := (fun W' => W'.cell? ⟨w.heap.size, 0, none⟩ = some (.slice (some ad) n c) ∧ W'.cell? ⟨dB, 0, none⟩ = some (.string x) ∧ W'.cell? ⟨dB, 1, none⟩ = some (.slice A1 vs.length c1) ∧ Hid (Below w5.heap.size w5 W'))) (by kernel_rfl) ⟨p6, d6, e6, hB6⟩ (fun hHeld => ?_)
                refine wpAnyH_take (i := 0) (oi := (⟨some 18, .move (.tmp 3), 4, "csp.go:74", #[], none⟩ : Oper)) (v := (.bool true)) rfl (by kernel_rfl) (by kernel_rfl) (by kernel_rfl) (fun _ _ _ h => h) (Or.inl ⟨by rfl, ?_⟩) hHeld ?_
                · (intro W hSw; obtain ⟨z1, z2, z3, z4⟩ := hSw; clear hHeld; first | (go_simp; done) | (go_simp; with_reducible rfl) | (go_simp; simp [hq3]; done))
                try simp only [Act.put, List.setIfInBounds_toArray, List.set_cons_zero, List.set_cons_succ]
                refine wpAnyH_take (i := 1) (oi := (⟨some 19, .move (.tmp 18), 4, "csp.go:74", #[⟨0, .data⟩], none⟩ : Oper)) (v := (.bool true)) rfl (by kernel_rfl) (by kernel_rfl) (by kernel_rfl) (fun _ _ _ h => h) (Or.inl ⟨by rfl, ?_⟩) hHeld ?_
                · (intro W hSw; obtain ⟨z1, z2, z3, z4⟩ := hSw; clear hHeld; first | (go_simp; done) | (go_simp; with_reducible rfl) | (go_simp; simp [hq3]; done))
                try simp only [Act.put, List.setIfInBounds_toArray, List.set_cons_zero, List.set_cons_succ]
                refine wpAnyH_take (i := 2) (oi := (⟨some 20, .fieldAddr 35 (.tmp 5) 0, 0, "csp.go:74", #[⟨1, .guard⟩], some (1, true)⟩ : Oper)) (v := (.pointer (some ⟨dB, 0, none⟩))) rfl (by kernel_rfl) (by kernel_rfl) (by kernel_rfl) (fun _ _ _ h => h) (Or.inl ⟨by rfl, ?_⟩) hHeld ?_
                · (intro W hSw; obtain ⟨z1, z2, z3, z4⟩ := hSw; clear hHeld; first | (go_simp; done) | (go_simp; with_reducible rfl) | (go_simp; simp [hq3]; done))
                try simp only [Act.put, List.setIfInBounds_toArray, List.set_cons_zero, List.set_cons_succ]
                refine wpAnyH_take (i := 3) (oi := (⟨some 21, .load 9 (.tmp 20), 9, "csp.go:74", #[⟨2, .data⟩, ⟨1, .guard⟩], some (1, true)⟩ : Oper)) (v := (.string x)) rfl (by kernel_rfl) (by kernel_rfl) (by kernel_rfl) (fun _ _ _ h => h) (Or.inl ⟨by rfl, ?_⟩) hHeld ?_
                · (intro W hSw; obtain ⟨z1, z2, z3, z4⟩ := hSw; clear hHeld; first | (go_simp; done) | (go_simp; with_reducible rfl) | (go_simp; simp [hq3]; done))
                try simp only [Act.put, List.setIfInBounds_toArray, List.set_cons_zero, List.set_cons_succ]
                refine wpAnyH_ready (rs := [4]) (by kernel_rfl) (by simp) (AllReadyH.cons rfl (fun K hK => ?_) AllReadyH.nil)
                go_simp
                refine (hwd _ hHeld.2.2.2).mono ?_
                rintro e W4 ⟨rfl, h, q1, q2, q3⟩
                refine hK.out _ _ ⟨q1, q2, q3, h⟩ (fun hHeld => ?_)
                clear hK
                try simp only [Act.put, List.setIfInBounds_toArray, List.set_cons_zero, List.set_cons_succ]
                refine wpAnyH_take (i := 5) (oi := (⟨some 23, .pick (.tmp 19) (.tmp 22) (.const (.bool false)), 4, "csp.go:74", #[⟨1, .data⟩, ⟨4, .data⟩], none⟩ : Oper)) (v := (.bool true)) rfl (by kernel_rfl) (by kernel_rfl) (by kernel_rfl) (fun _ _ _ h => h) (Or.inl ⟨by rfl, ?_⟩) hHeld ?_
                · (intro W hSw; obtain ⟨z1, z2, z3, z4⟩ := hSw; clear hHeld; first | (go_simp; done) | (go_simp; with_reducible rfl) | (go_simp; simp [hq3]; done))
                try simp only [Act.put, List.setIfInBounds_toArray, List.set_cons_zero, List.set_cons_succ]
                refine wpAnyH_take (i := 6) (oi := (⟨some 24, .move (.tmp 23), 4, "csp.go:74", #[⟨5, .data⟩, ⟨4, .chain⟩], none⟩ : Oper)) (v := (.bool true)) rfl (by kernel_rfl) (by kernel_rfl) (by kernel_rfl) (fun _ _ _ h => h) (Or.inl ⟨by rfl, ?_⟩) hHeld ?_
                · (intro W hSw; obtain ⟨z1, z2, z3, z4⟩ := hSw; clear hHeld; first | (go_simp; done) | (go_simp; with_reducible rfl) | (go_simp; simp [hq3]; done))
                try simp only [Act.put, List.setIfInBounds_toArray, List.set_cons_zero, List.set_cons_succ]
                refine wpAnyH_take (i := 7) (oi := (⟨some 25, .fieldAddr 35 (.tmp 5) 0, 0, "csp.go:74", #[⟨6, .guard⟩], some (6, true)⟩ : Oper)) (v := (.pointer (some ⟨dB, 0, none⟩))) rfl (by kernel_rfl) (by kernel_rfl) (by kernel_rfl) (fun _ _ _ h => h) (Or.inl ⟨by rfl, ?_⟩) hHeld ?_
                · (intro W hSw; obtain ⟨z1, z2, z3, z4⟩ := hSw; clear hHeld; first | (go_simp; done) | (go_simp; with_reducible rfl) | (go_simp; simp [hq3]; done))
                try simp only [Act.put, List.setIfInBounds_toArray, List.set_cons_zero, List.set_cons_succ]
                refine wpAnyH_take (i := 8) (oi := (⟨some 26, .load 9 (.tmp 25), 9, "csp.go:74", #[⟨7, .data⟩, ⟨6, .guard⟩], some (6, true)⟩ : Oper)) (v := (.string x)) rfl (by kernel_rfl) (by kernel_rfl) (by kernel_rfl) (fun _ _ _ h => h) (Or.inl ⟨by rfl, ?_⟩) hHeld ?_
                · (intro W hSw; obtain ⟨z1, z2, z3, z4⟩ := hSw; clear hHeld; first | (go_simp; done) | (go_simp; with_reducible rfl) | (go_simp; simp [hq3]; done))
                try simp only [Act.put, List.setIfInBounds_toArray, List.set_cons_zero, List.set_cons_succ]
                refine wpAnyH_take (i := 10) (oi := (⟨some 28, .fieldAddr 35 (.tmp 5) 0, 0, "csp.go:74", #[⟨6, .guard⟩], some (6, true)⟩ : Oper)) (v := (.pointer (some ⟨dB, 0, none⟩))) rfl (by kernel_rfl) (by kernel_rfl) (by kernel_rfl) (fun _ _ _ h => h) (Or.inl ⟨by rfl, ?_⟩) hHeld ?_
                · (intro W hSw; obtain ⟨z1, z2, z3, z4⟩ := hSw; clear hHeld; first | (go_simp; done) | (go_simp; with_reducible rfl) | (go_simp; simp [hq3]; done))
                try simp only [Act.put, List.setIfInBounds_toArray, List.set_cons_zero, List.set_cons_succ]
                refine wpAnyH_take (i := 11) (oi := (⟨some 29, .load 9 (.tmp 28), 9, "csp.go:74", #[⟨10, .data⟩, ⟨6, .guard⟩], some (6, true)⟩ : Oper)) (v := (.string x)) rfl (by kernel_rfl) (by kernel_rfl) (by kernel_rfl) (fun _ _ _ h => h) (Or.inl ⟨by rfl, ?_⟩) hHeld ?_
                · (intro W hSw; obtain ⟨z1, z2, z3, z4⟩ := hSw; clear hHeld; first | (go_simp; done) | (go_simp; with_reducible rfl) | (go_simp; simp [hq3]; done))
                try simp only [Act.put, List.setIfInBounds_toArray, List.set_cons_zero, List.set_cons_succ]
                refine wpAnyH_ready (rs := [9]) (by kernel_rfl) (by simp) (AllReadyH.cons rfl (fun K hK => ?_) AllReadyH.nil)
                go_simp
                refine (hlw _ hHeld.2.2.2).mono ?_
                rintro e W9 ⟨rfl, h, q1, q2, q3⟩
                refine hK.out _ _ ⟨q1, q2, q3, h⟩ (fun hHeld => ?_)
                clear hK
                try simp only [Act.put, List.setIfInBounds_toArray, List.set_cons_zero, List.set_cons_succ]
                refine wpAnyH_take (i := 12) (oi := ({ dst := some 30, op := Go.Op.binOp Go.BinOp.eql 9 (Go.Operand.tmp 27) (Go.Operand.tmp 29) 9, type := 4, pos := "csp.go:74", after := #[{ on := 9, ground := Go.Ground.data }, { on := 11, ground := Go.Ground.data }, { on := 6, ground := Go.Ground.guard }], guard := some (6, true) } : Oper)) (v := (.bool true)) rfl (by kernel_rfl) (by kernel_rfl) (by kernel_rfl) (fun _ _ _ h => h) (Or.inl ⟨by rfl, ?_⟩) hHeld ?_
                · (intro W hSw; obtain ⟨z1, z2, z3, z4⟩ := hSw; clear hHeld; first | (go_simp; done) | (go_simp; with_reducible rfl) | (go_simp; simp [hq3]; done))
                try simp only [Act.put, List.setIfInBounds_toArray, List.set_cons_zero, List.set_cons_succ]
                refine wpAnyH_take (i := 13) (oi := (⟨some 31, .pick (.tmp 24) (.tmp 30) (.const (.bool false)), 4, "csp.go:74", #[⟨6, .data⟩, ⟨12, .data⟩], none⟩ : Oper)) (v := (.bool true)) rfl (by kernel_rfl) (by kernel_rfl) (by kernel_rfl) (fun _ _ _ h => h) (Or.inl ⟨by rfl, ?_⟩) hHeld ?_
                · (intro W hSw; obtain ⟨z1, z2, z3, z4⟩ := hSw; clear hHeld; first | (go_simp; done) | (go_simp; with_reducible rfl) | (go_simp; simp [hq3]; done))
                try simp only [Act.put, List.setIfInBounds_toArray, List.set_cons_zero, List.set_cons_succ]
                refine wpAnyH_take (i := 14) (oi := (⟨some 32, .move (.tmp 31), 4, "csp.go:74", #[⟨13, .data⟩, ⟨9, .chain⟩], none⟩ : Oper)) (v := (.bool true)) rfl (by kernel_rfl) (by kernel_rfl) (by kernel_rfl) (fun _ _ _ h => h) (Or.inl ⟨by rfl, ?_⟩) hHeld ?_
                · (intro W hSw; obtain ⟨z1, z2, z3, z4⟩ := hSw; clear hHeld; first | (go_simp; done) | (go_simp; with_reducible rfl) | (go_simp; simp [hq3]; done))
                try simp only [Act.put, List.setIfInBounds_toArray, List.set_cons_zero, List.set_cons_succ]
                refine wpAnyH_take (i := 15) (oi := (⟨some 33, .fieldAddr 35 (.tmp 5) 1, 0, "csp.go:74", #[⟨14, .guard⟩], some (14, true)⟩ : Oper)) (v := (.pointer (some ⟨dB, 1, none⟩))) rfl (by kernel_rfl) (by kernel_rfl) (by kernel_rfl) (fun _ _ _ h => h) (Or.inl ⟨by rfl, ?_⟩) hHeld ?_
                · (intro W hSw; obtain ⟨z1, z2, z3, z4⟩ := hSw; clear hHeld; first | (go_simp; done) | (go_simp; with_reducible rfl) | (go_simp; simp [hq3]; done))
                try simp only [Act.put, List.setIfInBounds_toArray, List.set_cons_zero, List.set_cons_succ]
                refine wpAnyH_take (i := 16) (oi := (⟨some 34, .load 33 (.tmp 33), 33, "csp.go:74", #[⟨15, .data⟩, ⟨14, .guard⟩], some (14, true)⟩ : Oper)) (v := (.slice A1 vs.length c1)) rfl (by kernel_rfl) (by kernel_rfl) (by kernel_rfl) (fun _ _ _ h => h) (Or.inl ⟨by rfl, ?_⟩) hHeld ?_
                · (intro W hSw; obtain ⟨z1, z2, z3, z4⟩ := hSw; clear hHeld; first | (go_simp; done) | (go_simp; with_reducible rfl) | (go_simp; simp [hq3]; done))
                try simp only [Act.put, List.setIfInBounds_toArray, List.set_cons_zero, List.set_cons_succ]
                refine wpAnyH_take (i := 17) (oi := ({ dst := some 35, op := Go.Op.call { callee := Go.Callee.builtin Go.Builtin.len, args := #[Go.Operand.tmp 34], argTypes := #[33] }, type := 3, pos := "csp.go:74", after := #[{ on := 16, ground := Go.Ground.data }, { on := 14, ground := Go.Ground.guard }], guard := some (14, true) } : Oper)) (v := (.int .i64 vs.length)) rfl (by kernel_rfl) (by kernel_rfl) (by kernel_rfl) (fun _ _ _ h => h) (Or.inl ⟨by rfl, ?_⟩) hHeld ?_
                · (intro W hSw; obtain ⟨z1, z2, z3, z4⟩ := hSw; clear hHeld; first | (go_simp; done) | (go_simp; with_reducible rfl) | (go_simp; simp [hq3]; done))
                try simp only [Act.put, List.setIfInBounds_toArray, List.set_cons_zero, List.set_cons_succ]
                refine wpAnyH_take (i := 18) (oi := ({ dst := some 36, op := Go.Op.binOp Go.BinOp.leq 3 (Go.Operand.tmp 35) (Go.Operand.const (Go.Value.int Go.IntKind.i64 64)) 3, type := 4, pos := "csp.go:74", after := #[{ on := 17, ground := Go.Ground.data }, { on := 14, ground := Go.Ground.guard }], guard := some (14, true) } : Oper)) (v := (.bool true)) rfl (by kernel_rfl) (by kernel_rfl) (by kernel_rfl) (fun _ _ _ h => h) (Or.inl ⟨by rfl, ?_⟩) hHeld ?_
                · (intro W hSw; obtain ⟨z1, z2, z3, z4⟩ := hSw; clear hHeld; first | (go_simp; done) | (go_simp; with_reducible rfl) | (go_simp; simp [hq3]; done))
                try simp only [Act.put, List.setIfInBounds_toArray, List.set_cons_zero, List.set_cons_succ]
                refine wpAnyH_take (i := 19) (oi := (⟨some 37, .pick (.tmp 32) (.tmp 36) (.const (.bool false)), 4, "csp.go:74", #[⟨14, .data⟩, ⟨18, .data⟩], none⟩ : Oper)) (v := (.bool true)) rfl (by kernel_rfl) (by kernel_rfl) (by kernel_rfl) (fun _ _ _ h => h) (Or.inl ⟨by rfl, ?_⟩) hHeld ?_
                · (intro W hSw; obtain ⟨z1, z2, z3, z4⟩ := hSw; clear hHeld; first | (go_simp; done) | (go_simp; with_reducible rfl) | (go_simp; simp [hq3]; done))
                try simp only [Act.put, List.setIfInBounds_toArray, List.set_cons_zero, List.set_cons_succ]
                refine wpAnyH_take (i := 20) (oi := (⟨some 38, .move (.tmp 37), 4, "csp.go:74", #[⟨19, .data⟩, ⟨14, .chain⟩], none⟩ : Oper)) (v := (.bool true)) rfl (by kernel_rfl) (by kernel_rfl) (by kernel_rfl) (fun _ _ _ h => h) (Or.inl ⟨by rfl, ?_⟩) hHeld ?_
                · (intro W hSw; obtain ⟨z1, z2, z3, z4⟩ := hSw; clear hHeld; first | (go_simp; done) | (go_simp; with_reducible rfl) | (go_simp; simp [hq3]; done))
                try simp only [Act.put, List.setIfInBounds_toArray, List.set_cons_zero, List.set_cons_succ]
                refine wpAnyH_take (i := 21) (oi := (⟨some 39, .fieldAddr 25 (.tmp 1) 0, 0, "csp.go:74", #[⟨20, .guard⟩], some (20, true)⟩ : Oper)) (v := (.pointer (some ⟨w.heap.size, 0, none⟩))) rfl (by kernel_rfl) (by kernel_rfl) (by kernel_rfl) (fun _ _ _ h => h) (Or.inl ⟨by rfl, ?_⟩) hHeld ?_
                · (intro W hSw; obtain ⟨z1, z2, z3, z4⟩ := hSw; clear hHeld; first | (go_simp; done) | (go_simp; with_reducible rfl) | (go_simp; simp [hq3]; done))
                try simp only [Act.put, List.setIfInBounds_toArray, List.set_cons_zero, List.set_cons_succ]
                refine wpAnyH_take (i := 22) (oi := (⟨some 40, .load 23 (.tmp 39), 23, "csp.go:74", #[⟨21, .data⟩, ⟨20, .guard⟩], some (20, true)⟩ : Oper)) (v := (.slice (some ad) n c)) rfl (by kernel_rfl) (by kernel_rfl) (by kernel_rfl) (fun _ _ _ h => h) (Or.inl ⟨by rfl, ?_⟩) hHeld ?_
                · (intro W hSw; obtain ⟨z1, z2, z3, z4⟩ := hSw; clear hHeld; first | (go_simp; done) | (go_simp; with_reducible rfl) | (go_simp; simp [hq3]; done))
                try simp only [Act.put, List.setIfInBounds_toArray, List.set_cons_zero, List.set_cons_succ]
                refine wpAnyH_take (i := 23) (oi := (⟨some 41, .move (.tmp 4), 3, "csp.go:74", #[⟨20, .guard⟩], some (20, true)⟩ : Oper)) (v := (.int .i64 k)) rfl (by kernel_rfl) (by kernel_rfl) (by kernel_rfl) (fun _ _ _ h => h) (Or.inl ⟨by rfl, ?_⟩) hHeld ?_
                · (intro W hSw; obtain ⟨z1, z2, z3, z4⟩ := hSw; clear hHeld; first | (go_simp; done) | (go_simp; with_reducible rfl) | (go_simp; simp [hq3]; done))
                try simp only [Act.put, List.setIfInBounds_toArray, List.set_cons_zero, List.set_cons_succ]
                refine wpAnyH_take (i := 24) (oi := (⟨some 42, .slice 23 (.tmp 40) none (some (.tmp 41)) none, 23, "csp.go:74", #[⟨22, .data⟩, ⟨23, .data⟩, ⟨20, .guard⟩], some (20, true)⟩ : Oper)) (v := (.slice (some ad) k c)) rfl (by kernel_rfl) (by kernel_rfl) (by kernel_rfl) (fun _ _ _ h => h) (Or.inl ⟨by rfl, ?_⟩) hHeld ?_
                · (intro W hSw; obtain ⟨z1, z2, z3, z4⟩ := hSw; clear hHeld; first | (go_simp; done) | (go_simp; with_reducible rfl) | (go_simp; simp [hq3]; done))
                try simp only [Act.put, List.setIfInBounds_toArray, List.set_cons_zero, List.set_cons_succ]
                refine wpAnyH_take (i := 25) (oi := (⟨some 43, .fieldAddr 35 (.tmp 5) 0, 0, "csp.go:74", #[⟨20, .guard⟩], some (20, true)⟩ : Oper)) (v := (.pointer (some ⟨dB, 0, none⟩))) rfl (by kernel_rfl) (by kernel_rfl) (by kernel_rfl) (fun _ _ _ h => h) (Or.inl ⟨by rfl, ?_⟩) hHeld ?_
                · (intro W hSw; obtain ⟨z1, z2, z3, z4⟩ := hSw; clear hHeld; first | (go_simp; done) | (go_simp; with_reducible rfl) | (go_simp; simp [hq3]; done))
                try simp only [Act.put, List.setIfInBounds_toArray, List.set_cons_zero, List.set_cons_succ]
                refine wpAnyH_take (i := 26) (oi := (⟨some 44, .load 9 (.tmp 43), 9, "csp.go:74", #[⟨25, .data⟩, ⟨20, .guard⟩], some (20, true)⟩ : Oper)) (v := (.string x)) rfl (by kernel_rfl) (by kernel_rfl) (by kernel_rfl) (fun _ _ _ h => h) (Or.inl ⟨by rfl, ?_⟩) hHeld ?_
                · (intro W hSw; obtain ⟨z1, z2, z3, z4⟩ := hSw; clear hHeld; first | (go_simp; done) | (go_simp; with_reducible rfl) | (go_simp; simp [hq3]; done))
                try simp only [Act.put, List.setIfInBounds_toArray, List.set_cons_zero, List.set_cons_succ]
                refine wpAnyH_ready (rs := [27]) (by kernel_rfl) (by simp) (AllReadyH.cons rfl (fun K hK => ?_) AllReadyH.nil)
                go_simp
                refine (hnm _ hHeld.2.2.2).mono ?_
                rintro e W27 ⟨b, rfl, hbc, h, q1, q2, q3⟩
                refine hK.out _ _ ⟨q1, q2, q3, h⟩ (fun hHeld => ?_)
                clear hK
                try simp only [Act.put, List.setIfInBounds_toArray, List.set_cons_zero, List.set_cons_succ]
                refine wpAnyH_ready (rs := [28]) (by kernel_rfl) (by simp) (AllReadyH.cons rfl (fun K hK => ?_) AllReadyH.nil)
                go_simp
                refine (hhas _ b hHeld.2.2.2 hbc.out).mono ?_
                rintro e W28 ⟨rfl, h, q1, q2, q3⟩
                refine hK.out _ _ ⟨q1, q2, q3, h⟩ (fun hHeld => ?_)
                clear hK
                try simp only [Act.put, List.setIfInBounds_toArray, List.set_cons_zero, List.set_cons_succ]
                refine wpAnyH_take (i := 29) (oi := ({ dst := some 47, op := Go.Op.unOp Go.UnOp.not 4 (Go.Operand.tmp 46), type := 4, pos := "csp.go:74", after := #[{ on := 28, ground := Go.Ground.data }, { on := 20, ground := Go.Ground.guard }], guard := some (20, true) } : Oper)) (v := (.bool true)) rfl (by kernel_rfl) (by kernel_rfl) (by kernel_rfl) (fun _ _ _ h => h) (Or.inl ⟨by rfl, ?_⟩) hHeld ?_
                · (intro W hSw; obtain ⟨z1, z2, z3, z4⟩ := hSw; clear hHeld; first | (go_simp; done) | (go_simp; with_reducible rfl) | (go_simp; simp [hq3]; done))
                try simp only [Act.put, List.setIfInBounds_toArray, List.set_cons_zero, List.set_cons_succ]
                refine wpAnyH_take (i := 30) (oi := (⟨some 48, .pick (.tmp 38) (.tmp 47) (.const (.bool false)), 4, "csp.go:74", #[⟨20, .data⟩, ⟨29, .data⟩], none⟩ : Oper)) (v := (.bool true)) rfl (by kernel_rfl) (by kernel_rfl) (by kernel_rfl) (fun _ _ _ h => h) (Or.inl ⟨by rfl, ?_⟩) hHeld ?_
                · (intro W hSw; obtain ⟨z1, z2, z3, z4⟩ := hSw; clear hHeld; first | (go_simp; done) | (go_simp; with_reducible rfl) | (go_simp; simp [hq3]; done))
                try simp only [Act.put, List.setIfInBounds_toArray, List.set_cons_zero, List.set_cons_succ]
                refine wpAnyH_take (i := 31) (oi := (⟨some 3, .assign (.tmp 48), 4, "csp.go:74", #[⟨30, .data⟩, ⟨28, .chain⟩, ⟨0, .phase⟩, ⟨1, .phase⟩, ⟨2, .phase⟩, ⟨3, .phase⟩, ⟨4, .phase⟩, ⟨5, .phase⟩, ⟨6, .phase⟩, ⟨7, .phase⟩, ⟨8, .phase⟩, ⟨9, .phase⟩, ⟨10, .phase⟩, ⟨11, .phase⟩, ⟨12, .phase⟩, ⟨13, .phase⟩, ⟨14, .phase⟩, ⟨15, .phase⟩, ⟨16, .phase⟩, ⟨17, .phase⟩, ⟨18, .phase⟩, ⟨19, .phase⟩, ⟨20, .phase⟩, ⟨21, .phase⟩, ⟨22, .phase⟩, ⟨23, .phase⟩, ⟨24, .phase⟩, ⟨25, .phase⟩, ⟨26, .phase⟩, ⟨27, .phase⟩, ⟨28, .phase⟩, ⟨29, .phase⟩, ⟨30, .phase⟩], none⟩ : Oper)) (v := (.bool true)) rfl (by kernel_rfl) (by kernel_rfl) (by kernel_rfl) (fun _ _ _ h => h) (Or.inl ⟨by rfl, ?_⟩) hHeld ?_
                · (intro W hSw; obtain ⟨z1, z2, z3, z4⟩ := hSw; clear hHeld; first | (go_simp; done) | (go_simp; with_reducible rfl) | (go_simp; simp [hq3]; done))
                try simp only [Act.put, List.setIfInBounds_toArray, List.set_cons_zero, List.set_cons_succ]
                refine wpAnyH_done (by kernel_rfl) ?_ _
                go_wp2_with fail
                refine (hbad _ hHeld.2.2.2.out).mono ?_
                rintro e W5 ⟨rfl, h5⟩
                go_wp2
                go_roundg (n - (k + 1))
                case measure => omega
                case rel => exact ⟨k + 1, by omega, by omega, by go_num, by rw [hokn], Lib.hid (BW.out.trans ((HB5.out.trans (Below.mono h5.out HB5.out.size)).mono BW.out.size)), Lib.hid (blk_keep HP5.out h5.out)⟩
            · have hokn : okAt l (k + 1) = false := by rw [hok1, hb3]; rfl
              refine wp_region_held_drew (S := (fun W' => W'.cell? ⟨w.heap.size, 0, none⟩ = some (.slice (some ad) n c) ∧ W'.cell? ⟨dB, 0, none⟩ = some (.string x) ∧ W'.cell? ⟨dB, 1, none⟩ = some (.slice A1 vs.length c1) ∧ Hid (Below w5.heap.size w5 W'))) (by kernel_rfl) ⟨p6, d6, e6, hB6⟩ (fun hHeld => ?_)
              refine wpAnyH_take (i := 0) (oi := (⟨some 18, .move (.tmp 3), 4, "csp.go:74", #[], none⟩ : Oper)) (v := (.bool true)) rfl (by kernel_rfl) (by kernel_rfl) (by kernel_rfl) (fun _ _ _ h => h) (Or.inl ⟨by rfl, ?_⟩) hHeld ?_
              · (intro W hSw; obtain ⟨z1, z2, z3, z4⟩ := hSw; clear hHeld; first | (go_simp; done) | (go_simp; with_reducible rfl) | (go_simp; simp [hq3]; done))
              try simp only [Act.put, List.setIfInBounds_toArray, List.set_cons_zero, List.set_cons_succ]
              refine wpAnyH_take (i := 1) (oi := (⟨some 19, .move (.tmp 18), 4, "csp.go:74", #[⟨0, .data⟩], none⟩ : Oper)) (v := (.bool true)) rfl (by kernel_rfl) (by kernel_rfl) (by kernel_rfl) (fun _ _ _ h => h) (Or.inl ⟨by rfl, ?_⟩) hHeld ?_
              · (intro W hSw; obtain ⟨z1, z2, z3, z4⟩ := hSw; clear hHeld; first | (go_simp; done) | (go_simp; with_reducible rfl) | (go_simp; simp [hq3]; done))
              try simp only [Act.put, List.setIfInBounds_toArray, List.set_cons_zero, List.set_cons_succ]
              refine wpAnyH_take (i := 2) (oi := (⟨some 20, .fieldAddr 35 (.tmp 5) 0, 0, "csp.go:74", #[⟨1, .guard⟩], some (1, true)⟩ : Oper)) (v := (.pointer (some ⟨dB, 0, none⟩))) rfl (by kernel_rfl) (by kernel_rfl) (by kernel_rfl) (fun _ _ _ h => h) (Or.inl ⟨by rfl, ?_⟩) hHeld ?_
              · (intro W hSw; obtain ⟨z1, z2, z3, z4⟩ := hSw; clear hHeld; first | (go_simp; done) | (go_simp; with_reducible rfl) | (go_simp; simp [hq3]; done))
              try simp only [Act.put, List.setIfInBounds_toArray, List.set_cons_zero, List.set_cons_succ]
              refine wpAnyH_take (i := 3) (oi := (⟨some 21, .load 9 (.tmp 20), 9, "csp.go:74", #[⟨2, .data⟩, ⟨1, .guard⟩], some (1, true)⟩ : Oper)) (v := (.string x)) rfl (by kernel_rfl) (by kernel_rfl) (by kernel_rfl) (fun _ _ _ h => h) (Or.inl ⟨by rfl, ?_⟩) hHeld ?_
              · (intro W hSw; obtain ⟨z1, z2, z3, z4⟩ := hSw; clear hHeld; first | (go_simp; done) | (go_simp; with_reducible rfl) | (go_simp; simp [hq3]; done))
              try simp only [Act.put, List.setIfInBounds_toArray, List.set_cons_zero, List.set_cons_succ]
              refine wpAnyH_ready (rs := [4]) (by kernel_rfl) (by simp) (AllReadyH.cons rfl (fun K hK => ?_) AllReadyH.nil)
              go_simp
              refine (hwd _ hHeld.2.2.2).mono ?_
              rintro e W4 ⟨rfl, h, q1, q2, q3⟩
              refine hK.out _ _ ⟨q1, q2, q3, h⟩ (fun hHeld => ?_)
              clear hK
              try simp only [Act.put, List.setIfInBounds_toArray, List.set_cons_zero, List.set_cons_succ]
              refine wpAnyH_take (i := 5) (oi := (⟨some 23, .pick (.tmp 19) (.tmp 22) (.const (.bool false)), 4, "csp.go:74", #[⟨1, .data⟩, ⟨4, .data⟩], none⟩ : Oper)) (v := (.bool true)) rfl (by kernel_rfl) (by kernel_rfl) (by kernel_rfl) (fun _ _ _ h => h) (Or.inl ⟨by rfl, ?_⟩) hHeld ?_
              · (intro W hSw; obtain ⟨z1, z2, z3, z4⟩ := hSw; clear hHeld; first | (go_simp; done) | (go_simp; with_reducible rfl) | (go_simp; simp [hq3]; done))
              try simp only [Act.put, List.setIfInBounds_toArray, List.set_cons_zero, List.set_cons_succ]
              refine wpAnyH_take (i := 6) (oi := (⟨some 24, .move (.tmp 23), 4, "csp.go:74", #[⟨5, .data⟩, ⟨4, .chain⟩], none⟩ : Oper)) (v := (.bool true)) rfl (by kernel_rfl) (by kernel_rfl) (by kernel_rfl) (fun _ _ _ h => h) (Or.inl ⟨by rfl, ?_⟩) hHeld ?_
              · (intro W hSw; obtain ⟨z1, z2, z3, z4⟩ := hSw; clear hHeld; first | (go_simp; done) | (go_simp; with_reducible rfl) | (go_simp; simp [hq3]; done))
              try simp only [Act.put, List.setIfInBounds_toArray, List.set_cons_zero, List.set_cons_succ]
              refine wpAnyH_take (i := 7) (oi := (⟨some 25, .fieldAddr 35 (.tmp 5) 0, 0, "csp.go:74", #[⟨6, .guard⟩], some (6, true)⟩ : Oper)) (v := (.pointer (some ⟨dB, 0, none⟩))) rfl (by kernel_rfl) (by kernel_rfl) (by kernel_rfl) (fun _ _ _ h => h) (Or.inl ⟨by rfl, ?_⟩) hHeld ?_
              · (intro W hSw; obtain ⟨z1, z2, z3, z4⟩ := hSw; clear hHeld; first | (go_simp; done) | (go_simp; with_reducible rfl) | (go_simp; simp [hq3]; done))
              try simp only [Act.put, List.setIfInBounds_toArray, List.set_cons_zero, List.set_cons_succ]
              refine wpAnyH_take (i := 8) (oi := (⟨some 26, .load 9 (.tmp 25), 9, "csp.go:74", #[⟨7, .data⟩, ⟨6, .guard⟩], some (6, true)⟩ : Oper)) (v := (.string x)) rfl (by kernel_rfl) (by kernel_rfl) (by kernel_rfl) (fun _ _ _ h => h) (Or.inl ⟨by rfl, ?_⟩) hHeld ?_
              · (intro W hSw; obtain ⟨z1, z2, z3, z4⟩ := hSw; clear hHeld; first | (go_simp; done) | (go_simp; with_reducible rfl) | (go_simp; simp [hq3]; done))
              try simp only [Act.put, List.setIfInBounds_toArray, List.set_cons_zero, List.set_cons_succ]
              refine wpAnyH_take (i := 10) (oi := (⟨some 28, .fieldAddr 35 (.tmp 5) 0, 0, "csp.go:74", #[⟨6, .guard⟩], some (6, true)⟩ : Oper)) (v := (.pointer (some ⟨dB, 0, none⟩))) rfl (by kernel_rfl) (by kernel_rfl) (by kernel_rfl) (fun _ _ _ h => h) (Or.inl ⟨by rfl, ?_⟩) hHeld ?_
              · (intro W hSw; obtain ⟨z1, z2, z3, z4⟩ := hSw; clear hHeld; first | (go_simp; done) | (go_simp; with_reducible rfl) | (go_simp; simp [hq3]; done))
              try simp only [Act.put, List.setIfInBounds_toArray, List.set_cons_zero, List.set_cons_succ]
              refine wpAnyH_take (i := 11) (oi := (⟨some 29, .load 9 (.tmp 28), 9, "csp.go:74", #[⟨10, .data⟩, ⟨6, .guard⟩], some (6, true)⟩ : Oper)) (v := (.string x)) rfl (by kernel_rfl) (by kernel_rfl) (by kernel_rfl) (fun _ _ _ h => h) (Or.inl ⟨by rfl, ?_⟩) hHeld ?_
              · (intro W hSw; obtain ⟨z1, z2, z3, z4⟩ := hSw; clear hHeld; first | (go_simp; done) | (go_simp; with_reducible rfl) | (go_simp; simp [hq3]; done))
              try simp only [Act.put, List.setIfInBounds_toArray, List.set_cons_zero, List.set_cons_succ]
              refine wpAnyH_ready (rs := [9]) (by kernel_rfl) (by simp) (AllReadyH.cons rfl (fun K hK => ?_) AllReadyH.nil)
              go_simp
              refine (hlw _ hHeld.2.2.2).mono ?_
              rintro e W9 ⟨rfl, h, q1, q2, q3⟩
              refine hK.out _ _ ⟨q1, q2, q3, h⟩ (fun hHeld => ?_)
              clear hK
              try simp only [Act.put, List.setIfInBounds_toArray, List.set_cons_zero, List.set_cons_succ]
              refine wpAnyH_take (i := 12) (oi := ({ dst := some 30, op := Go.Op.binOp Go.BinOp.eql 9 (Go.Operand.tmp 27) (Go.Operand.tmp 29) 9, type := 4, pos := "csp.go:74", after := #[{ on := 9, ground := Go.Ground.data }, { on := 11, ground := Go.Ground.data }, { on := 6, ground := Go.Ground.guard }], guard := some (6, true) } : Oper)) (v := (.bool true)) rfl (by kernel_rfl) (by kernel_rfl) (by kernel_rfl) (fun _ _ _ h => h) (Or.inl ⟨by rfl, ?_⟩) hHeld ?_
              · (intro W hSw; obtain ⟨z1, z2, z3, z4⟩ := hSw; clear hHeld; first | (go_simp; done) | (go_simp; with_reducible rfl) | (go_simp; simp [hq3]; done))
              try simp only [Act.put, List.setIfInBounds_toArray, List.set_cons_zero, List.set_cons_succ]
              refine wpAnyH_take (i := 13) (oi := (⟨some 31, .pick (.tmp 24) (.tmp 30) (.const (.bool false)), 4, "csp.go:74", #[⟨6, .data⟩, ⟨12, .data⟩], none⟩ : Oper)) (v := (.bool true)) rfl (by kernel_rfl) (by kernel_rfl) (by kernel_rfl) (fun _ _ _ h => h) (Or.inl ⟨by rfl, ?_⟩) hHeld ?_
              · (intro W hSw; obtain ⟨z1, z2, z3, z4⟩ := hSw; clear hHeld; first | (go_simp; done) | (go_simp; with_reducible rfl) | (go_simp; simp [hq3]; done))
              try simp only [Act.put, List.setIfInBounds_toArray, List.set_cons_zero, List.set_cons_succ]
              refine wpAnyH_take (i := 14) (oi := (⟨some 32, .move (.tmp 31), 4, "csp.go:74", #[⟨13, .data⟩, ⟨9, .chain⟩], none⟩ : Oper)) (v := (.bool true)) rfl (by kernel_rfl) (by kernel_rfl) (by kernel_rfl) (fun _ _ _ h => h) (Or.inl ⟨by rfl, ?_⟩) hHeld ?_
              · (intro W hSw; obtain ⟨z1, z2, z3, z4⟩ := hSw; clear hHeld; first | (go_simp; done) | (go_simp; with_reducible rfl) | (go_simp; simp [hq3]; done))
              try simp only [Act.put, List.setIfInBounds_toArray, List.set_cons_zero, List.set_cons_succ]
              refine wpAnyH_take (i := 15) (oi := (⟨some 33, .fieldAddr 35 (.tmp 5) 1, 0, "csp.go:74", #[⟨14, .guard⟩], some (14, true)⟩ : Oper)) (v := (.pointer (some ⟨dB, 1, none⟩))) rfl (by kernel_rfl) (by kernel_rfl) (by kernel_rfl) (fun _ _ _ h => h) (Or.inl ⟨by rfl, ?_⟩) hHeld ?_
              · (intro W hSw; obtain ⟨z1, z2, z3, z4⟩ := hSw; clear hHeld; first | (go_simp; done) | (go_simp; with_reducible rfl) | (go_simp; simp [hq3]; done))
              try simp only [Act.put, List.setIfInBounds_toArray, List.set_cons_zero, List.set_cons_succ]
              refine wpAnyH_take (i := 16) (oi := (⟨some 34, .load 33 (.tmp 33), 33, "csp.go:74", #[⟨15, .data⟩, ⟨14, .guard⟩], some (14, true)⟩ : Oper)) (v := (.slice A1 vs.length c1)) rfl (by kernel_rfl) (by kernel_rfl) (by kernel_rfl) (fun _ _ _ h => h) (Or.inl ⟨by rfl, ?_⟩) hHeld ?_
              · (intro W hSw; obtain ⟨z1, z2, z3, z4⟩ := hSw; clear hHeld; first | (go_simp; done) | (go_simp; with_reducible rfl) | (go_simp; simp [hq3]; done))
              try simp only [Act.put, List.setIfInBounds_toArray, List.set_cons_zero, List.set_cons_succ]
              refine wpAnyH_take (i := 17) (oi := ({ dst := some 35, op := Go.Op.call { callee := Go.Callee.builtin Go.Builtin.len, args := #[Go.Operand.tmp 34], argTypes := #[33] }, type := 3, pos := "csp.go:74", after := #[{ on := 16, ground := Go.Ground.data }, { on := 14, ground := Go.Ground.guard }], guard := some (14, true) } : Oper)) (v := (.int .i64 vs.length)) rfl (by kernel_rfl) (by kernel_rfl) (by kernel_rfl) (fun _ _ _ h => h) (Or.inl ⟨by rfl, ?_⟩) hHeld ?_
              · (intro W hSw; obtain ⟨z1, z2, z3, z4⟩ := hSw; clear hHeld; first | (go_simp; done) | (go_simp; with_reducible rfl) | (go_simp; simp [hq3]; done))
              try simp only [Act.put, List.setIfInBounds_toArray, List.set_cons_zero, List.set_cons_succ]
              refine wpAnyH_take (i := 18) (oi := ({ dst := some 36, op := Go.Op.binOp Go.BinOp.leq 3 (Go.Operand.tmp 35) (Go.Operand.const (Go.Value.int Go.IntKind.i64 64)) 3, type := 4, pos := "csp.go:74", after := #[{ on := 17, ground := Go.Ground.data }, { on := 14, ground := Go.Ground.guard }], guard := some (14, true) } : Oper)) (v := (.bool false)) rfl (by kernel_rfl) (by kernel_rfl) (by kernel_rfl) (fun _ _ _ h => h) (Or.inl ⟨by rfl, ?_⟩) hHeld ?_
              · (intro W hSw; obtain ⟨z1, z2, z3, z4⟩ := hSw; clear hHeld; first | (go_simp; done) | (go_simp; with_reducible rfl) | (go_simp; simp [hq3]; done))
              try simp only [Act.put, List.setIfInBounds_toArray, List.set_cons_zero, List.set_cons_succ]
              refine wpAnyH_take (i := 19) (oi := (⟨some 37, .pick (.tmp 32) (.tmp 36) (.const (.bool false)), 4, "csp.go:74", #[⟨14, .data⟩, ⟨18, .data⟩], none⟩ : Oper)) (v := (.bool false)) rfl (by kernel_rfl) (by kernel_rfl) (by kernel_rfl) (fun _ _ _ h => h) (Or.inl ⟨by rfl, ?_⟩) hHeld ?_
              · (intro W hSw; obtain ⟨z1, z2, z3, z4⟩ := hSw; clear hHeld; first | (go_simp; done) | (go_simp; with_reducible rfl) | (go_simp; simp [hq3]; done))
              try simp only [Act.put, List.setIfInBounds_toArray, List.set_cons_zero, List.set_cons_succ]
              refine wpAnyH_take (i := 20) (oi := (⟨some 38, .move (.tmp 37), 4, "csp.go:74", #[⟨19, .data⟩, ⟨14, .chain⟩], none⟩ : Oper)) (v := (.bool false)) rfl (by kernel_rfl) (by kernel_rfl) (by kernel_rfl) (fun _ _ _ h => h) (Or.inl ⟨by rfl, ?_⟩) hHeld ?_
              · (intro W hSw; obtain ⟨z1, z2, z3, z4⟩ := hSw; clear hHeld; first | (go_simp; done) | (go_simp; with_reducible rfl) | (go_simp; simp [hq3]; done))
              try simp only [Act.put, List.setIfInBounds_toArray, List.set_cons_zero, List.set_cons_succ]
              refine wpAnyH_take (i := 21) (oi := (⟨some 39, .fieldAddr 25 (.tmp 1) 0, 0, "csp.go:74", #[⟨20, .guard⟩], some (20, true)⟩ : Oper)) (v := undef) rfl (by kernel_rfl) (by kernel_rfl) (by kernel_rfl) (fun _ _ _ h => h) (Or.inr ⟨by rfl, rfl⟩) hHeld ?_
              try simp only [Act.put, List.setIfInBounds_toArray, List.set_cons_zero, List.set_cons_succ]
              refine wpAnyH_take (i := 22) (oi := (⟨some 40, .load 23 (.tmp 39), 23, "csp.go:74", #[⟨21, .data⟩, ⟨20, .guard⟩], some (20, true)⟩ : Oper)) (v := undef) rfl (by kernel_rfl) (by kernel_rfl) (by kernel_rfl) (fun _ _ _ h => h) (Or.inr ⟨by rfl, rfl⟩) hHeld ?_
              try simp only [Act.put, List.setIfInBounds_toArray, List.set_cons_zero, List.set_cons_succ]
              refine wpAnyH_take (i := 23) (oi := (⟨some 41, .move (.tmp 4), 3, "csp.go:74", #[⟨20, .guard⟩], some (20, true)⟩ : Oper)) (v := undef) rfl (by kernel_rfl) (by kernel_rfl) (by kernel_rfl) (fun _ _ _ h => h) (Or.inr ⟨by rfl, rfl⟩) hHeld ?_
              try simp only [Act.put, List.setIfInBounds_toArray, List.set_cons_zero, List.set_cons_succ]
              refine wpAnyH_take (i := 24) (oi := (⟨some 42, .slice 23 (.tmp 40) none (some (.tmp 41)) none, 23, "csp.go:74", #[⟨22, .data⟩, ⟨23, .data⟩, ⟨20, .guard⟩], some (20, true)⟩ : Oper)) (v := undef) rfl (by kernel_rfl) (by kernel_rfl) (by kernel_rfl) (fun _ _ _ h => h) (Or.inr ⟨by rfl, rfl⟩) hHeld ?_
              try simp only [Act.put, List.setIfInBounds_toArray, List.set_cons_zero, List.set_cons_succ]
              refine wpAnyH_take (i := 25) (oi := (⟨some 43, .fieldAddr 35 (.tmp 5) 0, 0, "csp.go:74", #[⟨20, .guard⟩], some (20, true)⟩ : Oper)) (v := undef) rfl (by kernel_rfl) (by kernel_rfl) (by kernel_rfl) (fun _ _ _ h => h) (Or.inr ⟨by rfl, rfl⟩) hHeld ?_
              try simp only [Act.put, List.setIfInBounds_toArray, List.set_cons_zero, List.set_cons_succ]
              refine wpAnyH_take (i := 26) (oi := (⟨some 44, .load 9 (.tmp 43), 9, "csp.go:74", #[⟨25, .data⟩, ⟨20, .guard⟩], some (20, true)⟩ : Oper)) (v := undef) rfl (by kernel_rfl) (by kernel_rfl) (by kernel_rfl) (fun _ _ _ h => h) (Or.inr ⟨by rfl, rfl⟩) hHeld ?_
              try simp only [Act.put, List.setIfInBounds_toArray, List.set_cons_zero, List.set_cons_succ]
              refine wpAnyH_take (i := 27) (oi := ({ dst := some 45, op := Go.Op.call { callee := Go.Callee.value (Go.Operand.func 35), args := #[Go.Operand.tmp 44], argTypes := #[9] }, type := 65, pos := "csp.go:74", after := #[{ on := 26, ground := Go.Ground.data }, { on := 20, ground := Go.Ground.chain }, { on := 20, ground := Go.Ground.guard }], guard := some (20, true) } : Oper)) (v := undef) rfl (by kernel_rfl) (by kernel_rfl) (by kernel_rfl) (fun _ _ _ h => h) (Or.inr ⟨by rfl, rfl⟩) hHeld ?_
              try simp only [Act.put, List.setIfInBounds_toArray, List.set_cons_zero, List.set_cons_succ]
              refine wpAnyH_take (i := 28) (oi := ({ dst := some 46, op := Go.Op.call { callee := Go.Callee.value (Go.Operand.func 34), args := #[Go.Operand.tmp 42, Go.Operand.tmp 45], argTypes := #[23, 65] }, type := 4, pos := "csp.go:74", after := #[{ on := 24, ground := Go.Ground.data }, { on := 27, ground := Go.Ground.data }, { on := 27, ground := Go.Ground.chain }, { on := 20, ground := Go.Ground.guard }], guard := some (20, true) } : Oper)) (v := undef) rfl (by kernel_rfl) (by kernel_rfl) (by kernel_rfl) (fun _ _ _ h => h) (Or.inr ⟨by rfl, rfl⟩) hHeld ?_
              try simp only [Act.put, List.setIfInBounds_toArray, List.set_cons_zero, List.set_cons_succ]
              refine wpAnyH_take (i := 29) (oi := ({ dst := some 47, op := Go.Op.unOp Go.UnOp.not 4 (Go.Operand.tmp 46), type := 4, pos := "csp.go:74", after := #[{ on := 28, ground := Go.Ground.data }, { on := 20, ground := Go.Ground.guard }], guard := some (20, true) } : Oper)) (v := undef) rfl (by kernel_rfl) (by kernel_rfl) (by kernel_rfl) (fun _ _ _ h => h) (Or.inr ⟨by rfl, rfl⟩) hHeld ?_
              try simp only [Act.put, List.setIfInBounds_toArray, List.set_cons_zero, List.set_cons_succ]
              refine wpAnyH_take (i := 30) (oi := (⟨some 48, .pick (.tmp 38) (.tmp 47) (.const (.bool false)), 4, "csp.go:74", #[⟨20, .data⟩, ⟨29, .data⟩], none⟩ : Oper)) (v := (.bool false)) rfl (by kernel_rfl) (by kernel_rfl) (by kernel_rfl) (fun _ _ _ h => h) (Or.inl ⟨by rfl, ?_⟩) hHeld ?_
              · (intro W hSw; obtain ⟨z1, z2, z3, z4⟩ := hSw; clear hHeld; first | (go_simp; done) | (go_simp; with_reducible rfl) | (go_simp; simp [hq3]; done))
              try simp only [Act.put, List.setIfInBounds_toArray, List.set_cons_zero, List.set_cons_succ]
              refine wpAnyH_take (i := 31) (oi := (⟨some 3, .assign (.tmp 48), 4, "csp.go:74", #[⟨30, .data⟩, ⟨28, .chain⟩, ⟨0, .phase⟩, ⟨1, .phase⟩, ⟨2, .phase⟩, ⟨3, .phase⟩, ⟨4, .phase⟩, ⟨5, .phase⟩, ⟨6, .phase⟩, ⟨7, .phase⟩, ⟨8, .phase⟩, ⟨9, .phase⟩, ⟨10, .phase⟩, ⟨11, .phase⟩, ⟨12, .phase⟩, ⟨13, .phase⟩, ⟨14, .phase⟩, ⟨15, .phase⟩, ⟨16, .phase⟩, ⟨17, .phase⟩, ⟨18, .phase⟩, ⟨19, .phase⟩, ⟨20, .phase⟩, ⟨21, .phase⟩, ⟨22, .phase⟩, ⟨23, .phase⟩, ⟨24, .phase⟩, ⟨25, .phase⟩, ⟨26, .phase⟩, ⟨27, .phase⟩, ⟨28, .phase⟩, ⟨29, .phase⟩, ⟨30, .phase⟩], none⟩ : Oper)) (v := (.bool false)) rfl (by kernel_rfl) (by kernel_rfl) (by kernel_rfl) (fun _ _ _ h => h) (Or.inl ⟨by rfl, ?_⟩) hHeld ?_
              · (intro W hSw; obtain ⟨z1, z2, z3, z4⟩ := hSw; clear hHeld; first | (go_simp; done) | (go_simp; with_reducible rfl) | (go_simp; simp [hq3]; done))
              try simp only [Act.put, List.setIfInBounds_toArray, List.set_cons_zero, List.set_cons_succ]
              refine wpAnyH_done (by kernel_rfl) ?_ _
              go_wp2
              go_roundg (n - (k + 1))
              case measure => omega
              case rel => exact ⟨k + 1, by omega, by omega, by go_num, by rw [hokn], Lib.hid (BW.out.trans ((HB5.out.trans (Below.mono hHeld.2.2.2.out HB5.out.size)).mono BW.out.size)), Lib.hid (blk_keep HP5.out hHeld.2.2.2.out)⟩
    · have hltz : ¬ (k : Int) < (n : Int) := by omega
      obtain rfl : k = n := by omega
      cases hok : okAt l k with
      | true =>
        go_wp2
        go_ret
        exact ⟨rfl, BW.out⟩
      | false =>
        go_wp2
        go_ret
        exact ⟨rfl, BW.out⟩
theorem csp_Check.calls (A0_0 : Option Addr) (c0_0 : Nat) (l0_0 : List (S35)) (a0_1 : Bool) (r : Int) (w : World) (hr0_0 : Kd.C k35 w A0_0 l0_0.length l0_0) (hc0_0 : l0_0.length ≤ c0_0) (h : csp_Check.f l0_0 a0_1 = some r) :
    Calls Tryz.prog 13 #[.agg #[.slice A0_0 l0_0.length c0_0, .bool a0_1]] w fun e w' => e = .returned (.int .i64 r) ∧ Below w.heap.size w w' := by
  unfold csp_Check.f at h
  split at h
  · rename_i hs
    obtain rfl := Option.some.inj h
    exact check_any A0_0 c0_0 l0_0 a0_1 w hs.1 hs.2 hr0_0 hc0_0
  · cases h
end Go.Proofs.YtnndgmbflkdhkaaGreatDoor.Q
