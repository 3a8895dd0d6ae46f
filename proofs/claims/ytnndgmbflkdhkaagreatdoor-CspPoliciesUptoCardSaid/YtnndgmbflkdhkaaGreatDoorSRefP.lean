/- bastionref14.Parse: what it answers at every text (as csp.Parse). -/
import Derived.Test.YtnndgmbflkdhkaaGreatDoorSRefW
import Derived.Test.YtnndgmbflkdhkaaGreatDoorSParse
import Derived.Test.YtnndgmbflkdhkaaGreatDoorSHeader
import Derived.Sort.LoopGhostIn
import Derived.Deep.RegionHeld
set_option linter.unusedSimpArgs false
set_option linter.unusedVariables false
namespace Go.Proofs.YtnndgmbflkdhkaaGreatDoor.Q
open Go.RowKit Go.Proofs.YtnndgmbflkdhkaaGreatDoorW.PrintWords Go.Proofs.YtnndgmbflkdhkaaGreatDoorW.PrintLast Go.Proofs.YtnndgmbflkdhkaaGreatDoorW.PrintMore Go.Proofs.YtnndgmbflkdhkaaGreatDoor.P1 Go.Proofs.YtnndgmbflkdhkaaGreatDoor.R
theorem findF_any (l : List S35) (name : ByteArray) : (findF l name).2.2 = l.any (fun d => d.f0.toList == name.toList) := by
  unfold findF
  cases h : l.find? (fun d => d.f0.toList == name.toList) with
  | none =>
    symm
    rw [List.any_eq_false]
    intro x hx
    have := List.find?_eq_none.1 h x hx
    simpa using this
  | some d =>
    symm
    rw [List.any_eq_true]
    exact ⟨d, List.mem_of_find?_eq_some h, List.find?_some (p := fun d : S35 => d.f0.toList == name.toList) h⟩
theorem own_words {W : World} {base : Nat} {ok : Nat → Prop} {v : Value} {ws : List ByteArray} (h : Kd.R Kd.string 9 W base ok v ws) (hb : ∃ b, v.ownBlock = some b) :
    ∃ (g cap : Nat) (cur : Array Value), v = .slice (some ⟨g, 0, none⟩) ws.length cap ∧ base ≤ g ∧ W.heap[g]? = some (.cells cur 9 (0, 0)) ∧ ws.length ≤ cap ∧ ∀ (j : Nat) y, ws[j]? = some y → cur[j]? = some (.string y) := by
  obtain ⟨_, inner, ⟨hl, ho⟩, hr⟩ := h
  rcases ho with ⟨rfl, h0⟩ | ⟨g, cap, cur, rfl, h1, h2, h3, h4, h5, h6⟩
  · obtain ⟨b, hb⟩ := hb
    cases hb
  · refine ⟨g, cap, cur, rfl, h1, h2, h3, fun j y hj => ?_⟩
    have h7 := hr.2 j y hj
    have h8 : (inner.drop (j * 1)).take 1 = [.string y] := h7
    have h9 : inner[j]? = some (.string y) := by
      have := congrArg (fun l => l[0]?) h8
      simpa [List.getElem?_take, List.getElem?_drop] using this
    rw [← h6, List.getElem?_take] at h9
    split at h9
    · simpa using h9
    · cases h9
/-- what stands between two rounds -/
def StR (rep : Bool) (w : World) (gp : Nat) (ps : Array Value) (ds : List S35) (W : World) : Prop :=
  ∃ (v : Value) (inner : List Value), W.heap[w.heap.size + 1]? = some (.cells #[v, .bool rep] 25 (0, 0)) ∧ W.ownsRow (w.heap.size + 2) 35 2 v ds.length inner ∧ Reps (DirAt (w.heap.size + 2) W) 2 ds inner ∧ ds.length ≤ 64 ∧
    W.heap[w.heap.size]? = some (.cells #[.slice none 0 0, .bool false] 25 (0, 0)) ∧ W.heap[gp]? = some (.cells ps 9 (0, 0)) ∧ Below w.heap.size w W ∧ w.heap.size + 2 ≤ W.heap.size
theorem StR.below {rep : Bool} {w A C : World} {gp : Nat} {ps : Array Value} {ds : List S35} (h : StR rep w gp ps ds A) (hb : Below A.heap.size A C) : StR rep w gp ps ds C := by
  obtain ⟨v, inner, h1, h2, h3, h4, h5, h6, h7, h8⟩ := h
  refine ⟨v, inner, blk_keep h1 hb, h2.kept (grown_of_below hb (Value.slice none 0 0).ownBlock) ?_, ⟨h3.1, fun j p hj => (h3.2 j p hj).keep (fun g cells hn hgc => (blk_keep hgc hb).trans hgc.symm)⟩, h4, blk_keep h5 hb, blk_keep h6 hb, h7.trans (hb.mono h7.size), Nat.le_trans h8 hb.size⟩
  rcases h2.2 with ⟨rfl, _⟩ | ⟨g, cap, cur, rfl, _⟩
  · exact .inl rfl
  · exact .inr (fun e => by cases e)
def RefPost (s : List UInt8) (rep : Bool) (w : World) (e : Ending) (w' : World) : Prop := ((∃ ds v, parseGo (parts 59 s) [] = some ds ∧ e = .returned (.tuple #[.agg #[v, .bool rep], .int .i64 0]) ∧ ∃ inner, w'.ownsRow w.heap.size 35 2 v ds.length inner ∧ Reps (DirAt w.heap.size w') 2 ds inner) ∨
      (parseGo (parts 59 s) [] = none ∧ e = .returned (.tuple #[.agg #[.slice none 0 0, .bool false], .int .i64 3]))) ∧ Below w.heap.size w w'
set_option maxRecDepth 100000 in
set_option maxHeartbeats 4000000 in
theorem refparse_in (s : List UInt8) (rep : Bool) (hs : s.length ≤ 4096) (w : World) :
    CallsIn Fence.wide 5 Tryz.prog 26 #[.string (B s), .bool rep] w (RefPost s rep w) := by
  have hsz : (B s).size = s.length := B_size s
  have hlt0 : ¬ ((B s).size : Int) > 4096 := by rw [hsz]; omega
  refine callsIn_of_wp Tryz.func26 rfl trivial ?_
  simp only [Tryz.ntmps26, List.size_toArray, List.length_cons, List.length_nil, Nat.reduceAdd, Nat.reduceSub, Array.replicate_succ, Array.replicate_zero, List.push_toArray, List.append_toArray, List.nil_append, List.cons_append]
  gi_wp2_with fail
  refine ⟨trivial, ?_⟩
  refine (callsIn_wide.2 (bastionref14_split.calls (s.length + 4) (B s) 59 _ _ (splitR s 59 (by omega) _ (by omega)))).mono ?_
  rintro e W0 ⟨v0, rfl, hr0, hb0⟩
  have e2 : (((w.alloc (.cells #[.slice none 0 0, .bool false] 25)).alloc (.cells #[.slice none 0 0, .bool rep] 25))).heap.size = w.heap.size + 2 := by simp
  rw [e2] at hb0 hr0
  have hpn : parts 59 s ≠ [] := parts_ne 59 s
  obtain ⟨gp, capp, ps, rfl, hgp, hps, hcp, hcm, hpe⟩ : ∃ (gp capp : Nat) (ps : Array Value), v0 = .slice (some ⟨gp, 0, none⟩) (parts 59 s).length capp ∧ w.heap.size + 2 ≤ gp ∧ W0.heap[gp]? = some (.cells ps 9 (0, 0)) ∧ (parts 59 s).length ≤ capp ∧ capp ≤ maxLen ∧ ∀ (j : Nat) z, ((parts 59 s).map B)[j]? = some z → ps[j]? = some (.string z) := by
    rcases words_row hr0 with ⟨h, _⟩ | ⟨g, cap, cur, h1, h2, h3, h4, h5, h6⟩
    · rw [List.map_eq_nil_iff] at h; exact absurd h hpn
    · rw [List.length_map] at h1 h4; exact ⟨g, cap, cur, h1, h2, h3, h4, h5, h6⟩
  have hR5 : W0.heap[w.heap.size]? = some (.cells #[.slice none 0 0, .bool false] 25 (0, 0)) := by
    rw [hb0.block _ (by omega), (Below.heap_alloc _ _ _ (by simp))]; exact World.alloc_heap_new w _
  have hR6 : W0.heap[w.heap.size + 1]? = some (.cells #[.slice none 0 0, .bool rep] 25 (0, 0)) := by
    rw [hb0.block _ (by omega)]
    have := World.alloc_heap_new (w.alloc (.cells #[.slice none 0 0, .bool false] 25)) (.cells #[.slice none 0 0, .bool rep] 25)
    rwa [World.size_alloc] at this
  have hBW : Below w.heap.size w W0 := (((Below.refl _ w).alloc (Nat.le_refl _) _).alloc (by simp) _).trans (hb0.mono (by omega))
  have hst : StR rep w gp ps [] W0 := ⟨.slice none 0 0, [], hR6, ⟨rfl, .inl ⟨rfl, rfl⟩⟩, ⟨rfl, fun j p hj => by simp at hj⟩, by simp, hR5, hps, hBW, by have := hb0.size; omega⟩
  have hml : (parts 59 s).length ≤ 4097 := by
    have := parts_count 59 s
    omega
  clear e2 hb0 hR5 hR6 hBW hr0 hps hpn
  have HPE := Lib.hid hpe
  have HST := Lib.hid hst
  clear hpe hst
  have hxl : ∀ x ∈ parts 59 s, x.length ≤ 4096 := fun x hx => Nat.le_trans (parts_len 59 s x hx) hs
  have HXL := Lib.hid hxl
  clear hxl
  generalize hP : parts 59 s = P at *
  have HP := Lib.hid hP
  clear hP
  generalize hm : P.length = m at *
  have HM := Lib.hid hm
  clear hm
  gi_wp2_with fail
  gi_loopg [22] m (fun gk v22 wr => ∃ (k : Nat) (ds : List S35), k ≤ m ∧ m - k ≤ gk ∧ v22 = .int .i64 k ∧ Aside (parseGo (P.take k) [] = some ds) ∧ Aside (StR rep w gp ps ds wr))
  case atStart => exact ⟨0, [], Nat.zero_le _, by omega, rfl, rfl, HST.out⟩
  case round =>
    clear HST
    obtain ⟨k, ds, hk, hg, rfl, HGO, HS⟩ := hrel
    by_cases hlt : k < m
    · have hltz : (k : Int) < (m : Int) := by omega
      obtain ⟨x, hx⟩ : ∃ x, P[k]? = some x := ⟨P[k]'(by rw [HM.out]; exact hlt), List.getElem?_eq_getElem _⟩
      have hx1 : x.length ≤ 4096 := HXL.out x (List.mem_of_getElem? hx)
      have hpx : parseGo (P.take (k + 1)) [] = parseGo [x] ds := by
        rw [List.take_add_one, hx, Option.toList_some, parseGo_append, HGO.out]; rfl
      have hpn : parseGo (P.take (k + 1)) [] = none → parseGo P [] = none := fun h => by
        rw [← List.take_append_drop (k + 1) P, parseGo_append, h]; rfl
      have k0 : wr.cell? ⟨gp, k, none⟩ = some (.string (B x)) := by
        obtain ⟨_, _, _, _, _, _, _, h, _⟩ := HS.out
        rw [Lib.cell_of_heap h]
        exact HPE.out k (B x) (by rw [List.getElem?_map, hx]; rfl)
      have hwr : IntKind.i64.wrap ((k : Int) + 1) = ((k + 1 : Nat) : Int) := by rw [wrap_small _ (by omega) (by omega)]; omega
      have HPX := Lib.hid hpx
      have HPN := Lib.hid hpn
      clear hpx hpn hx
      gi_wp2_with fail
      refine ⟨trivial, ?_⟩
      refine (callsIn_wide.2 (bastionref14_words.calls (2 * x.length + 5) (B x) _ wr (wordsR x (by omega) _ (by omega)))).mono ?_
      rintro e W1 ⟨v1, rfl, hw1, hb1⟩
      have HS1 := Lib.hid (HS.out.below hb1)
      have hwl := wordsL_len x
      have hr1 := words_row hw1
      clear hw1 hb1 k0 HS
      cases hc : wordsL x with
      | nil =>
        rw [hc] at hr1
        have hpx := HPX.out
        rw [parse_nil x ds hc] at hpx
        obtain ⟨A, c, rfl⟩ : ∃ A c, v1 = .slice A 0 c := by
          rcases hr1 with ⟨_, h⟩ | ⟨g, cap, cur, rfl, _⟩
          · exact h
          · exact ⟨_, _, rfl⟩
        have HPX2 := Lib.hid hpx
        clear hr1 hpx
        gi_wp2
        gi_roundg (m - (k + 1))
        case measure => omega
        case rel => exact ⟨k + 1, ds, by omega, by omega, by go_num, HPX2.out, HS1.out⟩
      | cons y vs =>
        rw [hc] at hr1 hwl
        obtain ⟨g, cap, cur, rfl, hg1, hg2, hg3, hg4, hg5⟩ : ∃ (g cap : Nat) (cur : Array Value), v1 = .slice (some ⟨g, 0, none⟩) (vs.length + 1) cap ∧ wr.heap.size ≤ g ∧ W1.heap[g]? = some (.cells cur 9 (0, 0)) ∧ vs.length + 1 ≤ cap ∧ cap ≤ maxLen ∧ ∀ (j : Nat) z, ((y :: vs).map B)[j]? = some z → cur[j]? = some (.string z) := by
          rcases hr1 with ⟨h, _⟩ | ⟨g, cap, cur, h1, h2, h3, h4, h5, h6⟩
          · simp at h
          · exact ⟨g, cap, cur, by simpa using h1, h2, h3, by simpa using h4, h5, h6⟩
        have HC := Lib.hid hc
        clear hr1 hc
        have hlen0 : ¬ ((vs.length + 1 : Nat) : Int) = 0 := by omega
        gi_wp2_with fail
        have hcell0 : W1.cell? ⟨g, 0, none⟩ = some (.string (B y)) := by rw [Lib.cell_of_heap hg2]; exact hg5 0 (B y) rfl
        have hglt : g < W1.heap.size := blk_lt0 hg2
        obtain ⟨o, hcut, ho1⟩ : ∃ o : Nat, (∀ W9 : World, (Instr.slice 33 (.slice (some ⟨g, 0, none⟩) (vs.length + 1) cap) (some (.int .i64 1)) none none).run Tryz.prog W9 = .ok (.slice (some ⟨g, o, none⟩) vs.length (cap - 1)) W9) ∧ (vs ≠ [] → o = 1) := by
          obtain ⟨i0, hi0, _, hsz0, _⟩ := info_parts info9
          have h := cut_from (P := Tryz.prog) 33 9 .i64 Tryz.underlying33 hi0 1 hsz0 (some ⟨g, 0, none⟩) (vs.length + 1) cap 1 (by omega) (by omega)
          by_cases hc1 : cap = 1
          · refine ⟨0, fun W9 => ?_, fun hv => ?_⟩
            · rw [h W9, if_pos (by rw [hc1]; rfl)]; rfl
            · have : 0 < vs.length := List.length_pos_iff.2 hv
              omega
          · refine ⟨1, fun W9 => ?_, fun _ => rfl⟩
            rw [h W9, if_neg (by intro e; exact hc1 (by simpa using e))]; rfl
        have hrow : ∀ (j : Nat) z, (vs.map B)[j]? = some z → cur[o + j]? = some (.string z) := fun j z hj => by
          have hvn : vs ≠ [] := by rintro rfl; simp at hj
          rw [ho1 hvn, Nat.add_comm]
          exact hg5 (j + 1) z (by simpa using hj)
        have hyl : y.length ≤ 4096 := Nat.le_trans (hwl.2 y (by simp)).2 hx1
        have hvl : vs.length ≤ 4096 := by have := hwl.1; simp at this; omega
        have hcellD : W1.drew.cell? ⟨g, 0, none⟩ = some (.string (B y)) := hcell0
        have HG2 := Lib.hid hg2
        have HROW := Lib.hid hrow
        have HB := Aside0.mk (below_drew1 (Below.refl W1.heap.size W1))
        clear hwl hg2 hg5 ho1 hrow hg1 hg3 hg4
        refine wpIn_wide.2 ?_
        refine start_ (n := 11) (S := fun w' => w'.cell? ⟨g, 0, none⟩ = some (.string (B y))) (ds := []) #[false, false, false, false, false, false, false, false, false, false, false] (by kernel_rfl) rfl rfl (hcellD) (fun hHeld => ?_)
        generalize W1.drew = W1d at HB hHeld ⊢
        refine pure_ (i := 0) (N := some 31) (v := ?_) (a' := ?_) #[true, false, false, false, false, false, false, false, false, false, false] rfl rfl (by kernel_rfl) (fun _ _ _ h => h) (Or.inl ⟨by rfl, ?_⟩) ?_ ?_
        rotate_left
        · intro w'
          go_simp
          with_reducible rfl
        rotate_left
        · simp only [Act.put, List.setIfInBounds_toArray, List.set_cons_zero, List.set_cons_succ, i64_w, i32_w]
          rfl
        refine pure_ (i := 1) (N := some 32) (v := ?_) (a' := ?_) #[true, true, false, false, false, false, false, false, false, false, false] rfl rfl (by kernel_rfl) (fun _ _ _ h => h) (Or.inl ⟨by rfl, ?_⟩) ?_ ?_
        rotate_left
        · intro w'
          go_simp
          with_reducible rfl
        rotate_left
        · simp only [Act.put, List.setIfInBounds_toArray, List.set_cons_zero, List.set_cons_succ, i64_w, i32_w]
          rfl
        refine pure_ (i := 5) (N := some 36) (v := ?_) (a' := ?_) #[true, true, false, false, false, true, false, false, false, false, false] rfl rfl (by kernel_rfl) (fun _ _ _ h => h) (Or.inl ⟨by rfl, ?_⟩) ?_ ?_
        rotate_left
        · intro w'
          go_simp
          with_reducible rfl
        rotate_left
        · simp only [Act.put, List.setIfInBounds_toArray, List.set_cons_zero, List.set_cons_succ, i64_w, i32_w]
          rfl
        refine pure_ (i := 6) (N := some 37) (v := ?_) (a' := ?_) #[true, true, false, false, false, true, true, false, false, false, false] rfl rfl (by kernel_rfl) (fun _ _ _ h => h) (Or.inl ⟨by rfl, ?_⟩) ?_ ?_
        rotate_left
        · intro w'
          go_simp
          with_reducible rfl
        rotate_left
        · simp only [Act.put, List.setIfInBounds_toArray, List.set_cons_zero, List.set_cons_succ, i64_w, i32_w]
          rfl
        refine take_ (i := 2) (N := some 33) (v := ?_) (a' := ?_) #[true, true, true, false, false, true, true, false, false, false, false] rfl rfl (by kernel_rfl) (fun _ _ _ h => h) (Or.inl ⟨by rfl, ?_⟩) hHeld ?_ ?_
        rotate_left
        · intro w' s0
          go_simp
          with_reducible rfl
        rotate_left
        · simp only [Act.put, List.setIfInBounds_toArray, List.set_cons_zero, List.set_cons_succ, i64_w, i32_w]
          rfl
        refine join_ (σ := Value × Value × Nat) 1 #[true, true, true, true, true, true, true, true, true, true, false] (fun s => [(34, .string (B (low y))), (35, s.1), (38, s.2.1), (39, .agg #[.string (B (low y)), s.2.1]), (10, .pointer (some ⟨s.2.2, 0, none⟩))]) (fun s w' => Kd.R Kd.string 9 w' W1.heap.size (fun _ => True) s.2.1 (vs.map B) ∧ (∃ b, s.2.1.ownBlock = some b) ∧ w'.heap[s.2.2]? = some (.cells #[.string ⟨#[]⟩, .slice none 0 0] 35 (0, 0)) ∧ W1.heap.size ≤ s.2.2 ∧ Below W1.heap.size W1 w') ?_ ?_
        rotate_left
        · intro hCont
          refine three_ (i := 3) (j := 4) (k := 9) (Ni := some 34) (Nj := some 35) (Nk := some 10) #[true, true, true, true, false, true, true, false, false, false, false] #[true, true, true, false, true, true, true, false, false, false, false] #[true, true, true, false, false, true, true, false, false, true, false] rfl rfl rfl rfl rfl rfl (by kernel_rfl) (by decide) (by decide) (by decide) (fun K hK => ?_) (fun K hK => ?_) (fun K hK => ?_)
          · skip
            refine goes_ Tryz.func46 (by kernel_rfl) rfl #[.string (B y)] (by rfl) rfl rfl (by simp only [List.map_toArray, List.map_cons, List.map_nil]; rfl) ?_
            with_reducible refine (bastionref01_Lower.calls (y.length + 1) (B y) (B (low y)) _ (lowerR y (by omega) _ (by omega))).mono ?_
            rintro e w3 ⟨rfl, hb⟩
            refine ⟨_, rfl, ?_⟩
            have n0_ := Aside0.mk (HB.out.trans (hb.mono HB.out.size))
            clear HB
            have HB := n0_
            clear hb
            refine hK.out _ _ (((HB.out.cell hglt).trans hcell0)) (fun hHeld => ?_)
            clear hK K
            refine norm_ (a' := ?_) ?_ ?_
            rotate_left
            · show Act.put _ (some 34) _ = _
              simp only [Act.put, List.setIfInBounds_toArray, List.set_cons_zero, List.set_cons_succ, i64_w, i32_w]
              rfl
            refine two_ (i := 4) (j := 9) (Ni := some 35) (Nj := some 10) #[true, true, true, true, true, true, true, false, false, false, false] #[true, true, true, true, false, true, true, false, false, true, false] rfl rfl rfl rfl (by kernel_rfl) (by decide) (by decide) (fun K hK => ?_) (fun K hK => ?_)
            · skip
              refine Kd.R_lit_step Kd.string (w0 := W1) W1.heap.size 9 (by rfl) (N := 35) rfl (xs := ([] : List ByteArray)) (inner := []) (ok := fun _ => True) (okp := fun _ => True) ?hr (Reps.none _ _) (fun _ hk => hk) trivial HB.out HB.out.size (by simp) ?_
              (case hr => first | (go_simp; done) | (go_simp; rfl))
              intro v4 w3 ho hb hg hnew
              have n0_ := Aside0.mk hb
              clear HB
              have HB := n0_
              have HO := Aside0.mk ho
              have HN := Aside0.mk (show ∃ b, v4.ownBlock = some b from by obtain ⟨b, h1, _⟩ := hnew; exact ⟨b, h1⟩)
              clear ho hb hg hnew
              refine hK.out _ _ (((HB.out.cell hglt).trans hcell0)) (fun hHeld => ?_)
              clear hK K
              refine norm_ (a' := ?_) ?_ ?_
              rotate_left
              · show Act.put _ (some 35) _ = _
                simp only [Act.put, List.setIfInBounds_toArray, List.set_cons_zero, List.set_cons_succ, i64_w, i32_w]
                rfl
              refine two_ (i := 7) (j := 9) (Ni := some 38) (Nj := some 10) #[true, true, true, true, true, true, true, true, false, false, false] #[true, true, true, true, true, true, true, false, false, true, false] rfl rfl rfl rfl (by kernel_rfl) (by decide) (by decide) (fun K hK => ?_) (fun K hK => ?_)
              · skip
                refine Kd.R_append_rows_step Kd.string (w0 := W1) W1.heap.size (by rfl) (.tmp 35) (.tmp 37) 33 9 (.string ⟨#[]⟩) 16 rfl Tryz.underlying33 info9 rfl (by decide) (by omega) v4 [] (vs.map B) (some ⟨g, o, none⟩) vs.length (cap - 1) (fun _ => True) (fun _ => False) rfl rfl HO.out (by have := strC_of_heap (o := o) (xs := vs.map B) (by rw [List.length_map]; omega) ((HB.out.block g hglt).trans HG2.out) HROW.out; rwa [List.length_map] at this) (fun _ _ h => h) (fun _ h => h.elim) (fun _ _ => trivial) HB.out HB.out.size (by simp; omega) ?_
                intro v7 w3 ho hb hg hat
                rw [List.nil_append] at ho
                obtain ⟨A8, c8, e8⟩ := Kd.R_slice ho
                rw [List.length_map] at e8
                subst e8
                have n0_ := Aside0.mk hb
                have HN7 := Aside0.mk (show ∃ b, (Value.slice A8 vs.length c8).ownBlock = some b from by rcases hat with h | ⟨b, h, _⟩ <;> first | exact h ▸ HN.out | exact ⟨b, h⟩)
                clear HB
                have HB := n0_
                have HA := Aside0.mk ho
                clear ho hb hg hat
                refine hK.out _ _ (((HB.out.cell hglt).trans hcell0)) (fun hHeld => ?_)
                clear hK K
                refine norm_ (a' := ?_) ?_ ?_
                rotate_left
                · show Act.put _ (some 38) _ = _
                  simp only [Act.put, List.setIfInBounds_toArray, List.set_cons_zero, List.set_cons_succ, i64_w, i32_w]
                  rfl
                refine pure_ (i := 8) (N := some 39) (v := ?_) (a' := ?_) #[true, true, true, true, true, true, true, true, true, false, false] rfl rfl (by kernel_rfl) (fun _ _ _ h => h) (Or.inl ⟨by rfl, ?_⟩) ?_ ?_
                rotate_left
                · intro w'
                  go_simp
                  with_reducible rfl
                rotate_left
                · simp only [Act.put, List.setIfInBounds_toArray, List.set_cons_zero, List.set_cons_succ, i64_w, i32_w]
                  rfl
                refine one_ (i := 9) (N := some 10) #[true, true, true, true, true, true, true, true, true, true, false] rfl rfl (by kernel_rfl) (by decide) (fun K hK => ?_)
                refine box_step (N := 10) (cs := #[.string ⟨#[]⟩, .slice none 0 0]) (t := 35) (by rfl) rfl ?hr ?_
                (case hr => first | (go_simp; done) | (go_simp; rfl))
                intro dB hdg w3 hbox hb
                have HDB := Aside0.mk (show W1.heap.size ≤ dB by rw [hdg]; exact HB.out.size)
                have n0_ := Aside0.mk (HB.out.trans (hb.mono HB.out.size))
                have n2_ := Aside0.mk (Kd.R_below HA.out hb)
                clear HB
                have HB := n0_
                clear HA
                have HA := n2_
                have BD := Aside0.mk hbox
                clear hb hbox hdg
                refine hK.out _ _ (((HB.out.cell hglt).trans hcell0)) (fun hHeld => ?_)
                clear hK K
                refine norm_ (a' := ?_) ?_ ?_
                rotate_left
                · show Act.put _ (some 10) _ = _
                  simp only [Act.put, List.setIfInBounds_toArray, List.set_cons_zero, List.set_cons_succ, i64_w, i32_w]
                  rfl
                exact norm_ (by simp only [putAll, Act.put, List.setIfInBounds_toArray, List.set_cons_zero, List.set_cons_succ]) (hCont (v4, .slice A8 vs.length c8, dB) _ ⟨HA.out, HN7.out, BD.out, HDB.out, HB.out⟩)
              · skip
                refine box_step (N := 10) (cs := #[.string ⟨#[]⟩, .slice none 0 0]) (t := 35) (by rfl) rfl ?hr ?_
                (case hr => first | (go_simp; done) | (go_simp; rfl))
                intro dB hdg w3 hbox hb
                have HDB := Aside0.mk (show W1.heap.size ≤ dB by rw [hdg]; exact HB.out.size)
                have n0_ := Aside0.mk (HB.out.trans (hb.mono HB.out.size))
                have n1_ := Aside0.mk (Kd.R_below HO.out hb)
                clear HB
                have HB := n0_
                clear HO
                have HO := n1_
                have BD := Aside0.mk hbox
                clear hb hbox hdg
                refine hK.out _ _ (((HB.out.cell hglt).trans hcell0)) (fun hHeld => ?_)
                clear hK K
                refine norm_ (a' := ?_) ?_ ?_
                rotate_left
                · show Act.put _ (some 10) _ = _
                  simp only [Act.put, List.setIfInBounds_toArray, List.set_cons_zero, List.set_cons_succ, i64_w, i32_w]
                  rfl
                refine one_ (i := 7) (N := some 38) #[true, true, true, true, true, true, true, true, false, true, false] rfl rfl (by kernel_rfl) (by decide) (fun K hK => ?_)
                refine Kd.R_append_rows_step Kd.string (w0 := W1) W1.heap.size (by rfl) (.tmp 35) (.tmp 37) 33 9 (.string ⟨#[]⟩) 16 rfl Tryz.underlying33 info9 rfl (by decide) (by omega) v4 [] (vs.map B) (some ⟨g, o, none⟩) vs.length (cap - 1) (fun _ => True) (fun _ => False) rfl rfl HO.out (by have := strC_of_heap (o := o) (xs := vs.map B) (by rw [List.length_map]; omega) ((HB.out.block g hglt).trans HG2.out) HROW.out; rwa [List.length_map] at this) (fun _ _ h => h) (fun _ h => h.elim) (fun _ _ => trivial) HB.out HB.out.size (by simp; omega) ?_
                intro v7 w3 ho hb hg hat
                rw [List.nil_append] at ho
                obtain ⟨A8, c8, e8⟩ := Kd.R_slice ho
                rw [List.length_map] at e8
                subst e8
                have n0_ := Aside0.mk hb
                have n3_ := Aside0.mk (blk_grown BD.out hg (Kd.R_ne HO.out BD.out (by decide)))
                have HN7 := Aside0.mk (show ∃ b, (Value.slice A8 vs.length c8).ownBlock = some b from by rcases hat with h | ⟨b, h, _⟩ <;> first | exact h ▸ HN.out | exact ⟨b, h⟩)
                clear HB
                have HB := n0_
                have HA := Aside0.mk ho
                clear BD
                have BD := n3_
                clear ho hb hg hat
                refine hK.out _ _ (((HB.out.cell hglt).trans hcell0)) (fun hHeld => ?_)
                clear hK K
                refine norm_ (a' := ?_) ?_ ?_
                rotate_left
                · show Act.put _ (some 38) _ = _
                  simp only [Act.put, List.setIfInBounds_toArray, List.set_cons_zero, List.set_cons_succ, i64_w, i32_w]
                  rfl
                refine pure_ (i := 8) (N := some 39) (v := ?_) (a' := ?_) #[true, true, true, true, true, true, true, true, true, true, false] rfl rfl (by kernel_rfl) (fun _ _ _ h => h) (Or.inl ⟨by rfl, ?_⟩) ?_ ?_
                rotate_left
                · intro w'
                  go_simp
                  with_reducible rfl
                rotate_left
                · simp only [Act.put, List.setIfInBounds_toArray, List.set_cons_zero, List.set_cons_succ, i64_w, i32_w]
                  rfl
                exact norm_ (by simp only [putAll, Act.put, List.setIfInBounds_toArray, List.set_cons_zero, List.set_cons_succ]) (hCont (v4, .slice A8 vs.length c8, dB) _ ⟨HA.out, HN7.out, BD.out, HDB.out, HB.out⟩)
            · skip
              refine box_step (N := 10) (cs := #[.string ⟨#[]⟩, .slice none 0 0]) (t := 35) (by rfl) rfl ?hr ?_
              (case hr => first | (go_simp; done) | (go_simp; rfl))
              intro dB hdg w3 hbox hb
              have HDB := Aside0.mk (show W1.heap.size ≤ dB by rw [hdg]; exact HB.out.size)
              have n0_ := Aside0.mk (HB.out.trans (hb.mono HB.out.size))
              clear HB
              have HB := n0_
              have BD := Aside0.mk hbox
              clear hb hbox hdg
              refine hK.out _ _ (((HB.out.cell hglt).trans hcell0)) (fun hHeld => ?_)
              clear hK K
              refine norm_ (a' := ?_) ?_ ?_
              rotate_left
              · show Act.put _ (some 10) _ = _
                simp only [Act.put, List.setIfInBounds_toArray, List.set_cons_zero, List.set_cons_succ, i64_w, i32_w]
                rfl
              refine one_ (i := 4) (N := some 35) #[true, true, true, true, true, true, true, false, false, true, false] rfl rfl (by kernel_rfl) (by decide) (fun K hK => ?_)
              refine Kd.R_lit_step Kd.string (w0 := W1) W1.heap.size 9 (by rfl) (N := 35) rfl (xs := ([] : List ByteArray)) (inner := []) (ok := fun _ => True) (okp := fun _ => True) ?hr (Reps.none _ _) (fun _ hk => hk) trivial HB.out HB.out.size (by simp) ?_
              (case hr => first | (go_simp; done) | (go_simp; rfl))
              intro v4 w3 ho hb hg hnew
              have n0_ := Aside0.mk hb
              have n3_ := Aside0.mk (blk_grown BD.out hg (by simp))
              clear HB
              have HB := n0_
              have HO := Aside0.mk ho
              have HN := Aside0.mk (show ∃ b, v4.ownBlock = some b from by obtain ⟨b, h1, _⟩ := hnew; exact ⟨b, h1⟩)
              clear BD
              have BD := n3_
              clear ho hb hg hnew
              refine hK.out _ _ (((HB.out.cell hglt).trans hcell0)) (fun hHeld => ?_)
              clear hK K
              refine norm_ (a' := ?_) ?_ ?_
              rotate_left
              · show Act.put _ (some 35) _ = _
                simp only [Act.put, List.setIfInBounds_toArray, List.set_cons_zero, List.set_cons_succ, i64_w, i32_w]
                rfl
              refine one_ (i := 7) (N := some 38) #[true, true, true, true, true, true, true, true, false, true, false] rfl rfl (by kernel_rfl) (by decide) (fun K hK => ?_)
              refine Kd.R_append_rows_step Kd.string (w0 := W1) W1.heap.size (by rfl) (.tmp 35) (.tmp 37) 33 9 (.string ⟨#[]⟩) 16 rfl Tryz.underlying33 info9 rfl (by decide) (by omega) v4 [] (vs.map B) (some ⟨g, o, none⟩) vs.length (cap - 1) (fun _ => True) (fun _ => False) rfl rfl HO.out (by have := strC_of_heap (o := o) (xs := vs.map B) (by rw [List.length_map]; omega) ((HB.out.block g hglt).trans HG2.out) HROW.out; rwa [List.length_map] at this) (fun _ _ h => h) (fun _ h => h.elim) (fun _ _ => trivial) HB.out HB.out.size (by simp; omega) ?_
              intro v7 w3 ho hb hg hat
              rw [List.nil_append] at ho
              obtain ⟨A8, c8, e8⟩ := Kd.R_slice ho
              rw [List.length_map] at e8
              subst e8
              have n0_ := Aside0.mk hb
              have n3_ := Aside0.mk (blk_grown BD.out hg (Kd.R_ne HO.out BD.out (by decide)))
              have HN7 := Aside0.mk (show ∃ b, (Value.slice A8 vs.length c8).ownBlock = some b from by rcases hat with h | ⟨b, h, _⟩ <;> first | exact h ▸ HN.out | exact ⟨b, h⟩)
              clear HB
              have HB := n0_
              have HA := Aside0.mk ho
              clear BD
              have BD := n3_
              clear ho hb hg hat
              refine hK.out _ _ (((HB.out.cell hglt).trans hcell0)) (fun hHeld => ?_)
              clear hK K
              refine norm_ (a' := ?_) ?_ ?_
              rotate_left
              · show Act.put _ (some 38) _ = _
                simp only [Act.put, List.setIfInBounds_toArray, List.set_cons_zero, List.set_cons_succ, i64_w, i32_w]
                rfl
              refine pure_ (i := 8) (N := some 39) (v := ?_) (a' := ?_) #[true, true, true, true, true, true, true, true, true, true, false] rfl rfl (by kernel_rfl) (fun _ _ _ h => h) (Or.inl ⟨by rfl, ?_⟩) ?_ ?_
              rotate_left
              · intro w'
                go_simp
                with_reducible rfl
              rotate_left
              · simp only [Act.put, List.setIfInBounds_toArray, List.set_cons_zero, List.set_cons_succ, i64_w, i32_w]
                rfl
              exact norm_ (by simp only [putAll, Act.put, List.setIfInBounds_toArray, List.set_cons_zero, List.set_cons_succ]) (hCont (v4, .slice A8 vs.length c8, dB) _ ⟨HA.out, HN7.out, BD.out, HDB.out, HB.out⟩)
          · skip
            refine Kd.R_lit_step Kd.string (w0 := W1) W1.heap.size 9 (by rfl) (N := 35) rfl (xs := ([] : List ByteArray)) (inner := []) (ok := fun _ => True) (okp := fun _ => True) ?hr (Reps.none _ _) (fun _ hk => hk) trivial HB.out HB.out.size (by simp) ?_
            (case hr => first | (go_simp; done) | (go_simp; rfl))
            intro v4 w3 ho hb hg hnew
            have n0_ := Aside0.mk hb
            clear HB
            have HB := n0_
            have HO := Aside0.mk ho
            have HN := Aside0.mk (show ∃ b, v4.ownBlock = some b from by obtain ⟨b, h1, _⟩ := hnew; exact ⟨b, h1⟩)
            clear ho hb hg hnew
            refine hK.out _ _ (((HB.out.cell hglt).trans hcell0)) (fun hHeld => ?_)
            clear hK K
            refine norm_ (a' := ?_) ?_ ?_
            rotate_left
            · show Act.put _ (some 35) _ = _
              simp only [Act.put, List.setIfInBounds_toArray, List.set_cons_zero, List.set_cons_succ, i64_w, i32_w]
              rfl
            refine two_ (i := 3) (j := 9) (Ni := some 34) (Nj := some 10) #[true, true, true, true, true, true, true, false, false, false, false] #[true, true, true, false, true, true, true, false, false, true, false] rfl rfl rfl rfl (by kernel_rfl) (by decide) (by decide) (fun K hK => ?_) (fun K hK => ?_)
            · skip
              refine goes_ Tryz.func46 (by kernel_rfl) rfl #[.string (B y)] (by rfl) rfl rfl (by simp only [List.map_toArray, List.map_cons, List.map_nil]; rfl) ?_
              with_reducible refine (bastionref01_Lower.calls (y.length + 1) (B y) (B (low y)) _ (lowerR y (by omega) _ (by omega))).mono ?_
              rintro e w3 ⟨rfl, hb⟩
              refine ⟨_, rfl, ?_⟩
              have n0_ := Aside0.mk (HB.out.trans (hb.mono HB.out.size))
              have n1_ := Aside0.mk (Kd.R_below HO.out hb)
              clear HB
              have HB := n0_
              clear HO
              have HO := n1_
              clear hb
              refine hK.out _ _ (((HB.out.cell hglt).trans hcell0)) (fun hHeld => ?_)
              clear hK K
              refine norm_ (a' := ?_) ?_ ?_
              rotate_left
              · show Act.put _ (some 34) _ = _
                simp only [Act.put, List.setIfInBounds_toArray, List.set_cons_zero, List.set_cons_succ, i64_w, i32_w]
                rfl
              refine two_ (i := 7) (j := 9) (Ni := some 38) (Nj := some 10) #[true, true, true, true, true, true, true, true, false, false, false] #[true, true, true, true, true, true, true, false, false, true, false] rfl rfl rfl rfl (by kernel_rfl) (by decide) (by decide) (fun K hK => ?_) (fun K hK => ?_)
              · skip
                refine Kd.R_append_rows_step Kd.string (w0 := W1) W1.heap.size (by rfl) (.tmp 35) (.tmp 37) 33 9 (.string ⟨#[]⟩) 16 rfl Tryz.underlying33 info9 rfl (by decide) (by omega) v4 [] (vs.map B) (some ⟨g, o, none⟩) vs.length (cap - 1) (fun _ => True) (fun _ => False) rfl rfl HO.out (by have := strC_of_heap (o := o) (xs := vs.map B) (by rw [List.length_map]; omega) ((HB.out.block g hglt).trans HG2.out) HROW.out; rwa [List.length_map] at this) (fun _ _ h => h) (fun _ h => h.elim) (fun _ _ => trivial) HB.out HB.out.size (by simp; omega) ?_
                intro v7 w3 ho hb hg hat
                rw [List.nil_append] at ho
                obtain ⟨A8, c8, e8⟩ := Kd.R_slice ho
                rw [List.length_map] at e8
                subst e8
                have n0_ := Aside0.mk hb
                have HN7 := Aside0.mk (show ∃ b, (Value.slice A8 vs.length c8).ownBlock = some b from by rcases hat with h | ⟨b, h, _⟩ <;> first | exact h ▸ HN.out | exact ⟨b, h⟩)
                clear HB
                have HB := n0_
                have HA := Aside0.mk ho
                clear ho hb hg hat
                refine hK.out _ _ (((HB.out.cell hglt).trans hcell0)) (fun hHeld => ?_)
                clear hK K
                refine norm_ (a' := ?_) ?_ ?_
                rotate_left
                · show Act.put _ (some 38) _ = _
                  simp only [Act.put, List.setIfInBounds_toArray, List.set_cons_zero, List.set_cons_succ, i64_w, i32_w]
                  rfl
                refine pure_ (i := 8) (N := some 39) (v := ?_) (a' := ?_) #[true, true, true, true, true, true, true, true, true, false, false] rfl rfl (by kernel_rfl) (fun _ _ _ h => h) (Or.inl ⟨by rfl, ?_⟩) ?_ ?_
                rotate_left
                · intro w'
                  go_simp
                  with_reducible rfl
                rotate_left
                · simp only [Act.put, List.setIfInBounds_toArray, List.set_cons_zero, List.set_cons_succ, i64_w, i32_w]
                  rfl
                refine one_ (i := 9) (N := some 10) #[true, true, true, true, true, true, true, true, true, true, false] rfl rfl (by kernel_rfl) (by decide) (fun K hK => ?_)
                refine box_step (N := 10) (cs := #[.string ⟨#[]⟩, .slice none 0 0]) (t := 35) (by rfl) rfl ?hr ?_
                (case hr => first | (go_simp; done) | (go_simp; rfl))
                intro dB hdg w3 hbox hb
                have HDB := Aside0.mk (show W1.heap.size ≤ dB by rw [hdg]; exact HB.out.size)
                have n0_ := Aside0.mk (HB.out.trans (hb.mono HB.out.size))
                have n2_ := Aside0.mk (Kd.R_below HA.out hb)
                clear HB
                have HB := n0_
                clear HA
                have HA := n2_
                have BD := Aside0.mk hbox
                clear hb hbox hdg
                refine hK.out _ _ (((HB.out.cell hglt).trans hcell0)) (fun hHeld => ?_)
                clear hK K
                refine norm_ (a' := ?_) ?_ ?_
                rotate_left
                · show Act.put _ (some 10) _ = _
                  simp only [Act.put, List.setIfInBounds_toArray, List.set_cons_zero, List.set_cons_succ, i64_w, i32_w]
                  rfl
                exact norm_ (by simp only [putAll, Act.put, List.setIfInBounds_toArray, List.set_cons_zero, List.set_cons_succ]) (hCont (v4, .slice A8 vs.length c8, dB) _ ⟨HA.out, HN7.out, BD.out, HDB.out, HB.out⟩)
              · skip
                refine box_step (N := 10) (cs := #[.string ⟨#[]⟩, .slice none 0 0]) (t := 35) (by rfl) rfl ?hr ?_
                (case hr => first | (go_simp; done) | (go_simp; rfl))
                intro dB hdg w3 hbox hb
                have HDB := Aside0.mk (show W1.heap.size ≤ dB by rw [hdg]; exact HB.out.size)
                have n0_ := Aside0.mk (HB.out.trans (hb.mono HB.out.size))
                have n1_ := Aside0.mk (Kd.R_below HO.out hb)
                clear HB
                have HB := n0_
                clear HO
                have HO := n1_
                have BD := Aside0.mk hbox
                clear hb hbox hdg
                refine hK.out _ _ (((HB.out.cell hglt).trans hcell0)) (fun hHeld => ?_)
                clear hK K
                refine norm_ (a' := ?_) ?_ ?_
                rotate_left
                · show Act.put _ (some 10) _ = _
                  simp only [Act.put, List.setIfInBounds_toArray, List.set_cons_zero, List.set_cons_succ, i64_w, i32_w]
                  rfl
                refine one_ (i := 7) (N := some 38) #[true, true, true, true, true, true, true, true, false, true, false] rfl rfl (by kernel_rfl) (by decide) (fun K hK => ?_)
                refine Kd.R_append_rows_step Kd.string (w0 := W1) W1.heap.size (by rfl) (.tmp 35) (.tmp 37) 33 9 (.string ⟨#[]⟩) 16 rfl Tryz.underlying33 info9 rfl (by decide) (by omega) v4 [] (vs.map B) (some ⟨g, o, none⟩) vs.length (cap - 1) (fun _ => True) (fun _ => False) rfl rfl HO.out (by have := strC_of_heap (o := o) (xs := vs.map B) (by rw [List.length_map]; omega) ((HB.out.block g hglt).trans HG2.out) HROW.out; rwa [List.length_map] at this) (fun _ _ h => h) (fun _ h => h.elim) (fun _ _ => trivial) HB.out HB.out.size (by simp; omega) ?_
                intro v7 w3 ho hb hg hat
                rw [List.nil_append] at ho
                obtain ⟨A8, c8, e8⟩ := Kd.R_slice ho
                rw [List.length_map] at e8
                subst e8
                have n0_ := Aside0.mk hb
                have n3_ := Aside0.mk (blk_grown BD.out hg (Kd.R_ne HO.out BD.out (by decide)))
                have HN7 := Aside0.mk (show ∃ b, (Value.slice A8 vs.length c8).ownBlock = some b from by rcases hat with h | ⟨b, h, _⟩ <;> first | exact h ▸ HN.out | exact ⟨b, h⟩)
                clear HB
                have HB := n0_
                have HA := Aside0.mk ho
                clear BD
                have BD := n3_
                clear ho hb hg hat
                refine hK.out _ _ (((HB.out.cell hglt).trans hcell0)) (fun hHeld => ?_)
                clear hK K
                refine norm_ (a' := ?_) ?_ ?_
                rotate_left
                · show Act.put _ (some 38) _ = _
                  simp only [Act.put, List.setIfInBounds_toArray, List.set_cons_zero, List.set_cons_succ, i64_w, i32_w]
                  rfl
                refine pure_ (i := 8) (N := some 39) (v := ?_) (a' := ?_) #[true, true, true, true, true, true, true, true, true, true, false] rfl rfl (by kernel_rfl) (fun _ _ _ h => h) (Or.inl ⟨by rfl, ?_⟩) ?_ ?_
                rotate_left
                · intro w'
                  go_simp
                  with_reducible rfl
                rotate_left
                · simp only [Act.put, List.setIfInBounds_toArray, List.set_cons_zero, List.set_cons_succ, i64_w, i32_w]
                  rfl
                exact norm_ (by simp only [putAll, Act.put, List.setIfInBounds_toArray, List.set_cons_zero, List.set_cons_succ]) (hCont (v4, .slice A8 vs.length c8, dB) _ ⟨HA.out, HN7.out, BD.out, HDB.out, HB.out⟩)
            · skip
              refine box_step (N := 10) (cs := #[.string ⟨#[]⟩, .slice none 0 0]) (t := 35) (by rfl) rfl ?hr ?_
              (case hr => first | (go_simp; done) | (go_simp; rfl))
              intro dB hdg w3 hbox hb
              have HDB := Aside0.mk (show W1.heap.size ≤ dB by rw [hdg]; exact HB.out.size)
              have n0_ := Aside0.mk (HB.out.trans (hb.mono HB.out.size))
              have n1_ := Aside0.mk (Kd.R_below HO.out hb)
              clear HB
              have HB := n0_
              clear HO
              have HO := n1_
              have BD := Aside0.mk hbox
              clear hb hbox hdg
              refine hK.out _ _ (((HB.out.cell hglt).trans hcell0)) (fun hHeld => ?_)
              clear hK K
              refine norm_ (a' := ?_) ?_ ?_
              rotate_left
              · show Act.put _ (some 10) _ = _
                simp only [Act.put, List.setIfInBounds_toArray, List.set_cons_zero, List.set_cons_succ, i64_w, i32_w]
                rfl
              refine one_ (i := 3) (N := some 34) #[true, true, true, true, true, true, true, false, false, true, false] rfl rfl (by kernel_rfl) (by decide) (fun K hK => ?_)
              refine goes_ Tryz.func46 (by kernel_rfl) rfl #[.string (B y)] (by rfl) rfl rfl (by simp only [List.map_toArray, List.map_cons, List.map_nil]; rfl) ?_
              with_reducible refine (bastionref01_Lower.calls (y.length + 1) (B y) (B (low y)) _ (lowerR y (by omega) _ (by omega))).mono ?_
              rintro e w3 ⟨rfl, hb⟩
              refine ⟨_, rfl, ?_⟩
              have n0_ := Aside0.mk (HB.out.trans (hb.mono HB.out.size))
              have n1_ := Aside0.mk (Kd.R_below HO.out hb)
              have n3_ := Aside0.mk (blk_below BD.out hb)
              clear HB
              have HB := n0_
              clear HO
              have HO := n1_
              clear BD
              have BD := n3_
              clear hb
              refine hK.out _ _ (((HB.out.cell hglt).trans hcell0)) (fun hHeld => ?_)
              clear hK K
              refine norm_ (a' := ?_) ?_ ?_
              rotate_left
              · show Act.put _ (some 34) _ = _
                simp only [Act.put, List.setIfInBounds_toArray, List.set_cons_zero, List.set_cons_succ, i64_w, i32_w]
                rfl
              refine one_ (i := 7) (N := some 38) #[true, true, true, true, true, true, true, true, false, true, false] rfl rfl (by kernel_rfl) (by decide) (fun K hK => ?_)
              refine Kd.R_append_rows_step Kd.string (w0 := W1) W1.heap.size (by rfl) (.tmp 35) (.tmp 37) 33 9 (.string ⟨#[]⟩) 16 rfl Tryz.underlying33 info9 rfl (by decide) (by omega) v4 [] (vs.map B) (some ⟨g, o, none⟩) vs.length (cap - 1) (fun _ => True) (fun _ => False) rfl rfl HO.out (by have := strC_of_heap (o := o) (xs := vs.map B) (by rw [List.length_map]; omega) ((HB.out.block g hglt).trans HG2.out) HROW.out; rwa [List.length_map] at this) (fun _ _ h => h) (fun _ h => h.elim) (fun _ _ => trivial) HB.out HB.out.size (by simp; omega) ?_
              intro v7 w3 ho hb hg hat
              rw [List.nil_append] at ho
              obtain ⟨A8, c8, e8⟩ := Kd.R_slice ho
              rw [List.length_map] at e8
              subst e8
              have n0_ := Aside0.mk hb
              have n3_ := Aside0.mk (blk_grown BD.out hg (Kd.R_ne HO.out BD.out (by decide)))
              have HN7 := Aside0.mk (show ∃ b, (Value.slice A8 vs.length c8).ownBlock = some b from by rcases hat with h | ⟨b, h, _⟩ <;> first | exact h ▸ HN.out | exact ⟨b, h⟩)
              clear HB
              have HB := n0_
              have HA := Aside0.mk ho
              clear BD
              have BD := n3_
              clear ho hb hg hat
              refine hK.out _ _ (((HB.out.cell hglt).trans hcell0)) (fun hHeld => ?_)
              clear hK K
              refine norm_ (a' := ?_) ?_ ?_
              rotate_left
              · show Act.put _ (some 38) _ = _
                simp only [Act.put, List.setIfInBounds_toArray, List.set_cons_zero, List.set_cons_succ, i64_w, i32_w]
                rfl
              refine pure_ (i := 8) (N := some 39) (v := ?_) (a' := ?_) #[true, true, true, true, true, true, true, true, true, true, false] rfl rfl (by kernel_rfl) (fun _ _ _ h => h) (Or.inl ⟨by rfl, ?_⟩) ?_ ?_
              rotate_left
              · intro w'
                go_simp
                with_reducible rfl
              rotate_left
              · simp only [Act.put, List.setIfInBounds_toArray, List.set_cons_zero, List.set_cons_succ, i64_w, i32_w]
                rfl
              exact norm_ (by simp only [putAll, Act.put, List.setIfInBounds_toArray, List.set_cons_zero, List.set_cons_succ]) (hCont (v4, .slice A8 vs.length c8, dB) _ ⟨HA.out, HN7.out, BD.out, HDB.out, HB.out⟩)
          · skip
            refine box_step (N := 10) (cs := #[.string ⟨#[]⟩, .slice none 0 0]) (t := 35) (by rfl) rfl ?hr ?_
            (case hr => first | (go_simp; done) | (go_simp; rfl))
            intro dB hdg w3 hbox hb
            have HDB := Aside0.mk (show W1.heap.size ≤ dB by rw [hdg]; exact HB.out.size)
            have n0_ := Aside0.mk (HB.out.trans (hb.mono HB.out.size))
            clear HB
            have HB := n0_
            have BD := Aside0.mk hbox
            clear hb hbox hdg
            refine hK.out _ _ (((HB.out.cell hglt).trans hcell0)) (fun hHeld => ?_)
            clear hK K
            refine norm_ (a' := ?_) ?_ ?_
            rotate_left
            · show Act.put _ (some 10) _ = _
              simp only [Act.put, List.setIfInBounds_toArray, List.set_cons_zero, List.set_cons_succ, i64_w, i32_w]
              rfl
            refine two_ (i := 3) (j := 4) (Ni := some 34) (Nj := some 35) #[true, true, true, true, false, true, true, false, false, true, false] #[true, true, true, false, true, true, true, false, false, true, false] rfl rfl rfl rfl (by kernel_rfl) (by decide) (by decide) (fun K hK => ?_) (fun K hK => ?_)
            · skip
              refine goes_ Tryz.func46 (by kernel_rfl) rfl #[.string (B y)] (by rfl) rfl rfl (by simp only [List.map_toArray, List.map_cons, List.map_nil]; rfl) ?_
              with_reducible refine (bastionref01_Lower.calls (y.length + 1) (B y) (B (low y)) _ (lowerR y (by omega) _ (by omega))).mono ?_
              rintro e w3 ⟨rfl, hb⟩
              refine ⟨_, rfl, ?_⟩
              have n0_ := Aside0.mk (HB.out.trans (hb.mono HB.out.size))
              have n3_ := Aside0.mk (blk_below BD.out hb)
              clear HB
              have HB := n0_
              clear BD
              have BD := n3_
              clear hb
              refine hK.out _ _ (((HB.out.cell hglt).trans hcell0)) (fun hHeld => ?_)
              clear hK K
              refine norm_ (a' := ?_) ?_ ?_
              rotate_left
              · show Act.put _ (some 34) _ = _
                simp only [Act.put, List.setIfInBounds_toArray, List.set_cons_zero, List.set_cons_succ, i64_w, i32_w]
                rfl
              refine one_ (i := 4) (N := some 35) #[true, true, true, true, true, true, true, false, false, true, false] rfl rfl (by kernel_rfl) (by decide) (fun K hK => ?_)
              refine Kd.R_lit_step Kd.string (w0 := W1) W1.heap.size 9 (by rfl) (N := 35) rfl (xs := ([] : List ByteArray)) (inner := []) (ok := fun _ => True) (okp := fun _ => True) ?hr (Reps.none _ _) (fun _ hk => hk) trivial HB.out HB.out.size (by simp) ?_
              (case hr => first | (go_simp; done) | (go_simp; rfl))
              intro v4 w3 ho hb hg hnew
              have n0_ := Aside0.mk hb
              have n3_ := Aside0.mk (blk_grown BD.out hg (by simp))
              clear HB
              have HB := n0_
              have HO := Aside0.mk ho
              have HN := Aside0.mk (show ∃ b, v4.ownBlock = some b from by obtain ⟨b, h1, _⟩ := hnew; exact ⟨b, h1⟩)
              clear BD
              have BD := n3_
              clear ho hb hg hnew
              refine hK.out _ _ (((HB.out.cell hglt).trans hcell0)) (fun hHeld => ?_)
              clear hK K
              refine norm_ (a' := ?_) ?_ ?_
              rotate_left
              · show Act.put _ (some 35) _ = _
                simp only [Act.put, List.setIfInBounds_toArray, List.set_cons_zero, List.set_cons_succ, i64_w, i32_w]
                rfl
              refine one_ (i := 7) (N := some 38) #[true, true, true, true, true, true, true, true, false, true, false] rfl rfl (by kernel_rfl) (by decide) (fun K hK => ?_)
              refine Kd.R_append_rows_step Kd.string (w0 := W1) W1.heap.size (by rfl) (.tmp 35) (.tmp 37) 33 9 (.string ⟨#[]⟩) 16 rfl Tryz.underlying33 info9 rfl (by decide) (by omega) v4 [] (vs.map B) (some ⟨g, o, none⟩) vs.length (cap - 1) (fun _ => True) (fun _ => False) rfl rfl HO.out (by have := strC_of_heap (o := o) (xs := vs.map B) (by rw [List.length_map]; omega) ((HB.out.block g hglt).trans HG2.out) HROW.out; rwa [List.length_map] at this) (fun _ _ h => h) (fun _ h => h.elim) (fun _ _ => trivial) HB.out HB.out.size (by simp; omega) ?_
              intro v7 w3 ho hb hg hat
              rw [List.nil_append] at ho
              obtain ⟨A8, c8, e8⟩ := Kd.R_slice ho
              rw [List.length_map] at e8
              subst e8
              have n0_ := Aside0.mk hb
              have n3_ := Aside0.mk (blk_grown BD.out hg (Kd.R_ne HO.out BD.out (by decide)))
              have HN7 := Aside0.mk (show ∃ b, (Value.slice A8 vs.length c8).ownBlock = some b from by rcases hat with h | ⟨b, h, _⟩ <;> first | exact h ▸ HN.out | exact ⟨b, h⟩)
              clear HB
              have HB := n0_
              have HA := Aside0.mk ho
              clear BD
              have BD := n3_
              clear ho hb hg hat
              refine hK.out _ _ (((HB.out.cell hglt).trans hcell0)) (fun hHeld => ?_)
              clear hK K
              refine norm_ (a' := ?_) ?_ ?_
              rotate_left
              · show Act.put _ (some 38) _ = _
                simp only [Act.put, List.setIfInBounds_toArray, List.set_cons_zero, List.set_cons_succ, i64_w, i32_w]
                rfl
              refine pure_ (i := 8) (N := some 39) (v := ?_) (a' := ?_) #[true, true, true, true, true, true, true, true, true, true, false] rfl rfl (by kernel_rfl) (fun _ _ _ h => h) (Or.inl ⟨by rfl, ?_⟩) ?_ ?_
              rotate_left
              · intro w'
                go_simp
                with_reducible rfl
              rotate_left
              · simp only [Act.put, List.setIfInBounds_toArray, List.set_cons_zero, List.set_cons_succ, i64_w, i32_w]
                rfl
              exact norm_ (by simp only [putAll, Act.put, List.setIfInBounds_toArray, List.set_cons_zero, List.set_cons_succ]) (hCont (v4, .slice A8 vs.length c8, dB) _ ⟨HA.out, HN7.out, BD.out, HDB.out, HB.out⟩)
            · skip
              refine Kd.R_lit_step Kd.string (w0 := W1) W1.heap.size 9 (by rfl) (N := 35) rfl (xs := ([] : List ByteArray)) (inner := []) (ok := fun _ => True) (okp := fun _ => True) ?hr (Reps.none _ _) (fun _ hk => hk) trivial HB.out HB.out.size (by simp) ?_
              (case hr => first | (go_simp; done) | (go_simp; rfl))
              intro v4 w3 ho hb hg hnew
              have n0_ := Aside0.mk hb
              have n3_ := Aside0.mk (blk_grown BD.out hg (by simp))
              clear HB
              have HB := n0_
              have HO := Aside0.mk ho
              have HN := Aside0.mk (show ∃ b, v4.ownBlock = some b from by obtain ⟨b, h1, _⟩ := hnew; exact ⟨b, h1⟩)
              clear BD
              have BD := n3_
              clear ho hb hg hnew
              refine hK.out _ _ (((HB.out.cell hglt).trans hcell0)) (fun hHeld => ?_)
              clear hK K
              refine norm_ (a' := ?_) ?_ ?_
              rotate_left
              · show Act.put _ (some 35) _ = _
                simp only [Act.put, List.setIfInBounds_toArray, List.set_cons_zero, List.set_cons_succ, i64_w, i32_w]
                rfl
              refine one_ (i := 3) (N := some 34) #[true, true, true, true, true, true, true, false, false, true, false] rfl rfl (by kernel_rfl) (by decide) (fun K hK => ?_)
              refine goes_ Tryz.func46 (by kernel_rfl) rfl #[.string (B y)] (by rfl) rfl rfl (by simp only [List.map_toArray, List.map_cons, List.map_nil]; rfl) ?_
              with_reducible refine (bastionref01_Lower.calls (y.length + 1) (B y) (B (low y)) _ (lowerR y (by omega) _ (by omega))).mono ?_
              rintro e w3 ⟨rfl, hb⟩
              refine ⟨_, rfl, ?_⟩
              have n0_ := Aside0.mk (HB.out.trans (hb.mono HB.out.size))
              have n1_ := Aside0.mk (Kd.R_below HO.out hb)
              have n3_ := Aside0.mk (blk_below BD.out hb)
              clear HB
              have HB := n0_
              clear HO
              have HO := n1_
              clear BD
              have BD := n3_
              clear hb
              refine hK.out _ _ (((HB.out.cell hglt).trans hcell0)) (fun hHeld => ?_)
              clear hK K
              refine norm_ (a' := ?_) ?_ ?_
              rotate_left
              · show Act.put _ (some 34) _ = _
                simp only [Act.put, List.setIfInBounds_toArray, List.set_cons_zero, List.set_cons_succ, i64_w, i32_w]
                rfl
              refine one_ (i := 7) (N := some 38) #[true, true, true, true, true, true, true, true, false, true, false] rfl rfl (by kernel_rfl) (by decide) (fun K hK => ?_)
              refine Kd.R_append_rows_step Kd.string (w0 := W1) W1.heap.size (by rfl) (.tmp 35) (.tmp 37) 33 9 (.string ⟨#[]⟩) 16 rfl Tryz.underlying33 info9 rfl (by decide) (by omega) v4 [] (vs.map B) (some ⟨g, o, none⟩) vs.length (cap - 1) (fun _ => True) (fun _ => False) rfl rfl HO.out (by have := strC_of_heap (o := o) (xs := vs.map B) (by rw [List.length_map]; omega) ((HB.out.block g hglt).trans HG2.out) HROW.out; rwa [List.length_map] at this) (fun _ _ h => h) (fun _ h => h.elim) (fun _ _ => trivial) HB.out HB.out.size (by simp; omega) ?_
              intro v7 w3 ho hb hg hat
              rw [List.nil_append] at ho
              obtain ⟨A8, c8, e8⟩ := Kd.R_slice ho
              rw [List.length_map] at e8
              subst e8
              have n0_ := Aside0.mk hb
              have n3_ := Aside0.mk (blk_grown BD.out hg (Kd.R_ne HO.out BD.out (by decide)))
              have HN7 := Aside0.mk (show ∃ b, (Value.slice A8 vs.length c8).ownBlock = some b from by rcases hat with h | ⟨b, h, _⟩ <;> first | exact h ▸ HN.out | exact ⟨b, h⟩)
              clear HB
              have HB := n0_
              have HA := Aside0.mk ho
              clear BD
              have BD := n3_
              clear ho hb hg hat
              refine hK.out _ _ (((HB.out.cell hglt).trans hcell0)) (fun hHeld => ?_)
              clear hK K
              refine norm_ (a' := ?_) ?_ ?_
              rotate_left
              · show Act.put _ (some 38) _ = _
                simp only [Act.put, List.setIfInBounds_toArray, List.set_cons_zero, List.set_cons_succ, i64_w, i32_w]
                rfl
              refine pure_ (i := 8) (N := some 39) (v := ?_) (a' := ?_) #[true, true, true, true, true, true, true, true, true, true, false] rfl rfl (by kernel_rfl) (fun _ _ _ h => h) (Or.inl ⟨by rfl, ?_⟩) ?_ ?_
              rotate_left
              · intro w'
                go_simp
                with_reducible rfl
              rotate_left
              · simp only [Act.put, List.setIfInBounds_toArray, List.set_cons_zero, List.set_cons_succ, i64_w, i32_w]
                rfl
              exact norm_ (by simp only [putAll, Act.put, List.setIfInBounds_toArray, List.set_cons_zero, List.set_cons_succ]) (hCont (v4, .slice A8 vs.length c8, dB) _ ⟨HA.out, HN7.out, BD.out, HDB.out, HB.out⟩)
        rintro ⟨v4, v7, dB⟩ W3 ⟨hR7, hN7, hD, hdB, hB3⟩
        obtain ⟨A8, c8, e8⟩ := Kd.R_slice hR7
        rw [List.length_map] at e8
        subst e8
        have hHeld : W3.cell? ⟨g, 0, none⟩ = some (.string (B y)) := (hB3.cell hglt).trans hcell0
        refine norm_ (a' := ?_) ?_ ?_
        rotate_left
        · simp only [putAll, Act.put, List.setIfInBounds_toArray, List.set_cons_zero, List.set_cons_succ]
          rfl
        refine one_ (i := 10) (N := none) #[true, true, true, true, true, true, true, true, true, true, true] rfl rfl (by kernel_rfl) (by decide) (fun K hK => ?_)
        have d0 : W3.cell? ⟨dB, 0, none⟩ = some (.string ⟨#[]⟩) := by rw [Lib.cell_of_heap hD]; rfl
        have d1 : W3.cell? ⟨dB, 1, none⟩ = some (.slice none 0 0) := by rw [Lib.cell_of_heap hD]; rfl
        have f0 : W3.frozen? ⟨dB, 0, none⟩ = false := Lib.frozen_of_heap hD 0
        have f1 : W3.frozen? ⟨dB, 1, none⟩ = false := Lib.frozen_of_heap hD 1
        have HD := Lib.hid (And.intro hD (And.intro hdB (And.intro hB3 (And.intro hR7 hN7))))
        clear hD hdB hB3 hR7 hN7
        refine skip_ (w1 := ?_) (by rfl) rfl ?_ ?_
        rotate_left
        · go_simp
          rfl
        obtain ⟨hD, hdB, hB3, hR7, hN7⟩ := HD.out
        have D5 : ((W3.setCell ⟨dB, 0, none⟩ (.string (B (low y)))).setCell ⟨dB, 1, none⟩ (.slice A8 vs.length c8)).heap[dB]? = some (.cells #[.string (B (low y)), .slice A8 vs.length c8] 35 (0, 0)) := by rw [setCell_blk (j := 1) _ (setCell_blk (j := 0) _ hD)]; rfl
        have B5 : Below W1.heap.size W1 ((W3.setCell ⟨dB, 0, none⟩ (.string (B (low y)))).setCell ⟨dB, 1, none⟩ (.slice A8 vs.length c8)) := (hB3.setCell (p := ⟨dB, 0, none⟩) hdB _).setCell (p := ⟨dB, 1, none⟩) hdB _
        have R5 : Kd.R Kd.string 9 ((W3.setCell ⟨dB, 0, none⟩ (.string (B (low y)))).setCell ⟨dB, 1, none⟩ (.slice A8 vs.length c8)) W1.heap.size (fun _ => True) (.slice A8 vs.length c8) (vs.map B) := Kd.R_set (Kd.R_set hR7 hD (by decide) 0 _) (setCell_blk (j := 0) _ hD) (by decide) 1 _
        clear d0 d1 f0 f1 HD hD hB3 hR7
        generalize ((W3.setCell ⟨dB, 0, none⟩ (.string (B (low y)))).setCell ⟨dB, 1, none⟩ (.slice A8 vs.length c8)) = W5 at D5 B5 R5 ⊢
        refine hK.out _ _ (((B5.cell hglt).trans hcell0)) (fun hHeld => ?_)
        clear hK K
        refine done_ (by kernel_rfl) ?_
        obtain ⟨g7, cap7, cur7, h7, hg71, hg72, hg73, hg75⟩ := own_words R5 hN7
        rw [List.length_map] at h7 hg73
        injection h7 with e71 e72 e73
        subst e71
        obtain rfl : cap7 = c8 := e73.symm
        have hs5 := HS1.out.below B5
        have hw1s : w.heap.size + 2 ≤ W1.heap.size := by obtain ⟨_, _, _, _, _, _, _, _, _, h⟩ := HS1.out; exact h
        have HG7 := Lib.hid (And.intro hg72 hg75)
        have HD5 := Lib.hid D5
        clear hcut HG2 HROW hcell0 hcellD hglt HS1 R5 hN7 hHeld hg72 hg75
        obtain ⟨v5, inner, q1, q2, q3, q4, q5, q6, q7, q8⟩ := hs5
        have hN := dirs_N q2 q3
        obtain ⟨A, c, rfl⟩ := Kd.N_slice hN
        have hC5 := (Kd.N_reads' hN).2.2
        have hAc := (Kd.N_reads' hN).2.1
        have hv5 : ∀ d ∈ ds, d.f1.length ≤ 1048576 := fun d hd => by
          obtain ⟨j, hj, rfl⟩ := List.mem_iff_getElem.1 hd
          obtain ⟨_, _, _, _, _, _, h, _⟩ := q3.2 j _ (List.getElem?_eq_getElem hj)
          exact h
        have hF := findR ds rep (B (low y)) (by omega) hv5 (ds.length + 1) (by omega)
        have hfa := findF_any ds (B (low y))
        obtain ⟨r1, r2, r3, hf⟩ : ∃ r1 r2 r3, findF ds (B (low y)) = (r1, r2, r3) := ⟨_, _, _, rfl⟩
        rw [hf] at hF hfa
        have c60 : W5.cell? ⟨w.heap.size + 1, 0, none⟩ = some (.slice A ds.length c) := by rw [Lib.cell_of_heap q1]; rfl
        have c61 : W5.cell? ⟨w.heap.size + 1, 1, none⟩ = some (.bool rep) := by rw [Lib.cell_of_heap q1]; rfl
        have cd0 : W5.cell? ⟨dB, 0, none⟩ = some (.string (B (low y))) := by rw [Lib.cell_of_heap D5]; rfl
        have HF := Lib.hid hF
        have HFA := Lib.hid hfa
        have HC5 := Lib.hid hC5
        have HQ := Lib.hid (And.intro q1 (And.intro q2 (And.intro q3 (And.intro q5 (And.intro q6 (And.intro q7 q8))))))
        clear hN hC5 hv5 hF hfa hf q1 q2 q3 q5 q6 q7 q8 D5 B5
        gi_wp2_with fail
        refine ⟨trivial, ?_⟩
        refine (callsIn_wide.2 (bastionref14_Find.calls (ds.length + 1) A c ds rep (B (low y)) r1 r2 r3 _ HC5.out hAc HF.out)).mono ?_
        rintro e W6 ⟨v6, rfl, hr6, hb6⟩
        obtain ⟨A6, c6, rfl⟩ := Kd.R_slice hr6
        have hfa := HFA.out
        try simp only at hfa
        obtain ⟨q1, q2, q3, q5, q6, q7, q8⟩ := HQ.out
        have HS6 := Lib.hid (StR.below ⟨_, inner, q1, q2, q3, q4, q5, q6, q7, q8⟩ hb6)
        have hP6 := blk_keep q1 hb6
        have hD6 := blk_keep HD5.out hb6
        have h46 := blk_keep q5 hb6
        have hG6 := blk_keep HG7.out.1 hb6
        have hps6 := blk_keep q6 hb6
        have hN6 := Nat.le_trans q8 hb6.size
        have hbw6 := q7.trans (hb6.mono q7.size)
        have own6 := q2.kept (w' := W6) (row := (Value.slice none 0 0).ownBlock) (grown_of_below hb6 _) (by cases A with | none => exact .inl rfl | some a => exact .inr (fun e => by cases e))
        have reps6 : Reps (DirAt (w.heap.size + 2) W6) 2 ds inner := ⟨q3.1, fun j p hj => (q3.2 j p hj).keep (fun g' cells hn hgc => (blk_keep hgc hb6).trans hgc.symm)⟩
        clear HQ HFA HF HC5 HD5 q1 q2 q3 q5 q6 q7 q8 hr6 hb6 c60 c61 cd0
        cases r3 with
        | true =>
          have HPH := Lib.hid (HPX.out.trans (parse_hit x y vs ds HC.out hfa.symm))
          clear hfa hP6 hD6 h46 hG6 hN6 hbw6 own6 reps6
          gi_wp2
          gi_roundg (m - (k + 1))
          case measure => omega
          case rel => exact ⟨k + 1, ds, by omega, by omega, by go_num, HPH.out, HS6.out.below (by first | exact (Below.refl _ _).alloc (Nat.le_refl _) _ | exact (((Below.refl _ _).alloc (Nat.le_refl _) _).setCell (Nat.le_refl _) _).setCell (Nat.le_refl _) _)⟩
        | false =>
          have hany : (ds.any fun e => e.f0.toList == (B (low y)).toList) = false := hfa.symm
          have HANY := Lib.hid hany
          have c71 : ∀ o, (W6.alloc o).cell? ⟨w.heap.size + 1, 0, none⟩ = some (.slice A ds.length c) := fun o => by rw [Lib.cell_of_heap (blk_keep hP6 ((Below.refl _ _).alloc (Nat.le_refl _) o))]; rfl
          have e7 : ∀ o, (W6.alloc o).cell? ⟨dB, 1, none⟩ = some (.slice (some ⟨g7, 0, none⟩) vs.length cap7) := fun o => by rw [Lib.cell_of_heap (blk_keep hD6 ((Below.refl _ _).alloc (Nat.le_refl _) o))]; rfl
          have e70 : ∀ o, (W6.alloc o).cell? ⟨dB, 0, none⟩ = some (.string (B (low y))) := fun o => by rw [Lib.cell_of_heap (blk_keep hD6 ((Below.refl _ _).alloc (Nat.le_refl _) o))]; rfl
          have a40 : ∀ o, (W6.alloc o).cell? ⟨w.heap.size, 0, none⟩ = some (.slice none 0 0) := fun o => by rw [Lib.cell_of_heap (blk_keep h46 ((Below.refl _ _).alloc (Nat.le_refl _) o))]; rfl
          have a41 : ∀ o, (W6.alloc o).cell? ⟨w.heap.size, 1, none⟩ = some (.bool false) := fun o => by rw [Lib.cell_of_heap (blk_keep h46 ((Below.refl _ _).alloc (Nat.le_refl _) o))]; rfl
          have y40 : ∀ o, (W6.alloc o).frozen? ⟨w.heap.size, 0, none⟩ = false := fun o => by simp [World.frozen?, blk_keep h46 ((Below.refl _ _).alloc (Nat.le_refl _) o)]
          have y41 : ∀ o, (W6.alloc o).frozen? ⟨w.heap.size, 1, none⟩ = false := fun o => by simp [World.frozen?, blk_keep h46 ((Below.refl _ _).alloc (Nat.le_refl _) o)]
          have HH := Lib.hid (And.intro hP6 (And.intro hD6 (And.intro h46 (And.intro hG6 (And.intro hps6 (And.intro hbw6 (And.intro own6 reps6)))))))
          clear hfa hany hP6 hD6 h46 hG6 hps6 hbw6 own6 reps6
          by_cases hv : vs.length > 64
          · have hvz : (vs.length : Int) > 64 := by omega
            have HNO := Lib.hid (HPN.out (HPX.out.trans (parse_many x y vs ds HC.out HANY.out (.inl hv))))
            gi_wp2
            obtain ⟨hP6, hD6, h46, hG6, hps6, hbw6, own6, reps6⟩ := HH.out
            refine bodyPost_ret (results_ct rfl _ _ w.heap.size 25 #[.slice none 0 0, .bool false] (0, 0) _ rfl (by rw [setCell_blk (j := 1) _ (setCell_blk (j := 0) _ (blk_keep h46 ((Below.refl _ _).alloc (Nat.le_refl _) _)))]; rfl) Tryz.underlying25 rfl (by kernel_rfl)) rfl ?_
            unfold RefPost
            exact ⟨.inr ⟨by rw [HP.out]; exact HNO.out, rfl⟩, ((hbw6.alloc (by omega) _).setCell (p := ⟨w.heap.size, 0, none⟩) (Nat.le_refl _) _).setCell (p := ⟨w.heap.size, 1, none⟩) (Nat.le_refl _) _⟩
          · have hvz : ¬ (vs.length : Int) > 64 := by omega
            by_cases hd : ds.length ≥ 64
            · have hdz : (ds.length : Int) ≥ 64 := by omega
              have HNO := Lib.hid (HPN.out (HPX.out.trans (parse_many x y vs ds HC.out HANY.out (.inr hd))))
              gi_wp2
              obtain ⟨hP6, hD6, h46, hG6, hps6, hbw6, own6, reps6⟩ := HH.out
              refine bodyPost_ret (results_ct rfl _ _ w.heap.size 25 #[.slice none 0 0, .bool false] (0, 0) _ rfl (by rw [setCell_blk (j := 1) _ (setCell_blk (j := 0) _ (blk_keep h46 ((Below.refl _ _).alloc (Nat.le_refl _) _)))]; rfl) Tryz.underlying25 rfl (by kernel_rfl)) rfl ?_
              unfold RefPost
              exact ⟨.inr ⟨by rw [HP.out]; exact HNO.out, rfl⟩, ((hbw6.alloc (by omega) _).setCell (p := ⟨w.heap.size, 0, none⟩) (Nat.le_refl _) _).setCell (p := ⟨w.heap.size, 1, none⟩) (Nat.le_refl _) _⟩
            · have hdz : ¬ (ds.length : Int) ≥ 64 := by omega
              have HPM := Lib.hid (HPX.out.trans (parse_more x y vs ds HC.out HANY.out (by omega)))
              clear a40 a41 y40 y41
              obtain ⟨hP6, hD6, h46, hG6, hps6, hbw6, own6, reps6⟩ := HH.out
              obtain ⟨i0, hi0, hz0, hz1, hz2⟩ := info_parts info35
              have hog : ∀ k, (Value.slice A ds.length c).ownBlock = some k → w.heap.size + 2 ≤ k ∧ ∃ cur, W6.heap[k]? = some (.cells cur 35 (0, 0)) := fun k hk => by
                rcases own6.2 with ⟨h9, _⟩ | ⟨g9, cap9, cur9, h9, h91, h92, _⟩
                · rw [h9] at hk; cases hk
                · rw [h9] at hk; cases hk; exact ⟨h91, _, h92⟩
              have hmk : ∀ w1 O1 O2, ((W6.alloc O1).alloc O2).grownBy w1 (Value.slice A ds.length c).ownBlock → ∀ (k : Nat) (o9 : Obj), W6.heap[k]? = some o9 → (∀ cur, o9 ≠ Obj.cells cur 35 (0, 0)) → w1.heap[k]? = some o9 := fun w1 O1 O2 hg9 k o9 hk hno => by
                have hlt := blk_lt0 hk
                rw [hg9.block k (by simp only [World.size_alloc]; omega) (fun e => by obtain ⟨_, cur, h9⟩ := hog k e.symm; rw [hk] at h9; exact hno cur (Option.some.inj h9)), Below.heap_alloc _ _ _ (by rw [World.size_alloc]; omega), Below.heap_alloc _ _ _ hlt]
                exact hk
              have hc2 : ∀ O1 j u, [Value.string (B (low y)), .slice (some ⟨g7, 0, none⟩) vs.length cap7][j]? = some u → ((W6.alloc O1).alloc (.cells #[.string (B (low y)), .slice (some ⟨g7, 0, none⟩) vs.length cap7] 35)).cell? ((⟨W6.heap.size + 1, 0, none⟩ : Addr).add j) = some u := fun O1 => by
                have := cell_two_new (W6.alloc O1) (.string (B (low y))) (.slice (some ⟨g7, 0, none⟩) vs.length cap7) 35
                rwa [World.size_alloc] at this
              have own1 := own6
              have hP1 := hP6
              have HM1 := Lib.hid hmk
              have HOG := Lib.hid hog
              clear hmk hog hP6 hD6 h46 hG6 hps6 hbw6 own6 reps6
              gi_wp2_with (gi_at_builtin; refine wpListIn_append_own _ rfl _ _ 23 rfl (w.heap.size + 2) 35 i0 (.agg #[.string ⟨#[]⟩, .slice none 0 0]) 2 40 Tryz.underlying23 hi0 hz0 hz1 hz2 rfl (by decide) _ _ _ rfl ((own1.alloc _).alloc _) ⟨W6.heap.size + 1, 0, none⟩ 1 1 [.string (B (low y)), .slice (some ⟨g7, 0, none⟩) vs.length cap7] rfl rfl (hc2 _) (by intro u hu; simp at hu; rcases hu with rfl | rfl <;> rfl) (by unfold maxLen; omega) (by omega) (by simp only [World.size_alloc]; omega) ?_; intro v' w1 hown' hgrow _; obtain ⟨g', cap', rfl⟩ := ownsRow_succ hown'; have hP8 := HM1.out w1 _ _ hgrow _ _ hP1 (fun cur e => by cases e); have c81 : w1.cell? ⟨w.heap.size + 1, 0, none⟩ = some (.slice A ds.length c) := (by rw [Lib.cell_of_heap hP8]; rfl); have f81 : w1.frozen? ⟨w.heap.size + 1, 0, none⟩ = false := (by simp [World.frozen?, hP8]))
              obtain ⟨hP6, hD6, h46, hG6, hps6, hbw6, own6, reps6⟩ := HH.out
              have hmk := HM1.out w1 _ _ hgrow
              have hg1s := hgrow.size
              simp only [World.size_alloc] at hg1s
              have hgo : w.heap.size + 2 ≤ g' := by
                rcases hown'.2 with ⟨h9, _⟩ | ⟨g9, cap9, cur9, h9, h91, _⟩
                · cases h9
                · cases h9; exact h91
              have hset : ∀ k, k ≠ w.heap.size + 1 → (w1.setCell ⟨w.heap.size + 1, 0, none⟩ (.slice (some ⟨g', 0, none⟩) (ds.length + 1) cap')).heap[k]? = w1.heap[k]? := fun k hk => Below.heap_setCell _ _ _ k hk
              have hsz8 : (w1.setCell ⟨w.heap.size + 1, 0, none⟩ (.slice (some ⟨g', 0, none⟩) (ds.length + 1) cap')).heap.size = w1.heap.size := by simp
              have hk8 : ∀ (k : Nat) (o9 : Obj), W6.heap[k]? = some o9 → (∀ cur, o9 ≠ Obj.cells cur 35 (0, 0)) → k ≠ w.heap.size + 1 → (w1.setCell ⟨w.heap.size + 1, 0, none⟩ (.slice (some ⟨g', 0, none⟩) (ds.length + 1) cap')).heap[k]? = some o9 := fun k o9 h9 hno hne => (hset k hne).trans (hmk k o9 h9 hno)
              have hpb8 : (w1.setCell ⟨w.heap.size + 1, 0, none⟩ (.slice (some ⟨g', 0, none⟩) (ds.length + 1) cap')).heap[w.heap.size + 1]? = some (.cells #[.slice (some ⟨g', 0, none⟩) (ds.length + 1) cap', .bool rep] 25 (0, 0)) := by rw [setCell_blk (j := 0) _ hP8]; rfl
              have hown8 := hown'.kept (grownBy_setCell' w1 (w.heap.size + 1) (.slice (some ⟨g', 0, none⟩) (ds.length + 1) cap')) (.inr (fun e => by have e2 : g' = w.heap.size + 1 := Option.some.inj e; omega))
              have hbw8 : Below w.heap.size w (w1.setCell ⟨w.heap.size + 1, 0, none⟩ (.slice (some ⟨g', 0, none⟩) (ds.length + 1) cap')) := (((hbw6.alloc (by omega) _).alloc (by simp only [World.size_alloc]; omega) _).grown hgrow (by simp only [World.size_alloc]; omega) (fun k e => by obtain ⟨h9, _⟩ := HOG.out k e; omega)).setCell (p := ⟨w.heap.size + 1, 0, none⟩) (by show _ ≤ w.heap.size + 1; omega) _
              have hst8 : StR rep w gp ps (ds ++ [⟨B (low y), vs.map B⟩]) (w1.setCell ⟨w.heap.size + 1, 0, none⟩ (.slice (some ⟨g', 0, none⟩) (ds.length + 1) cap')) := by
                refine ⟨_, inner ++ [.string (B (low y)), .slice (some ⟨g7, 0, none⟩) vs.length cap7], hpb8, ?_, Reps.snoc ⟨reps6.1, fun j p hj => (reps6.2 j p hj).keep (fun g9 cells hn hgc => (hk8 g9 _ hgc (fun cur e => by cases e) (by omega)).trans hgc.symm)⟩ ?_ rfl, by rw [List.length_append, List.length_singleton]; omega, hk8 _ _ h46 (fun cur e => by cases e) (by omega), hk8 _ _ hps6 (fun cur e => by cases e) (by omega), hbw8, by omega⟩
                · rw [List.length_append, List.length_singleton]; exact hown8
                · refine ⟨g7, 0, cap7, cur7, by rw [List.length_map], by rw [List.length_map]; omega, by rw [List.length_map]; omega, by omega, hk8 g7 _ hG6 (fun cur e => by cases e) (by omega), fun j z hj => ?_⟩
                  rw [Nat.zero_add]
                  exact HG7.out.2 j z hj
              clear hset hsz8 hk8 hpb8 hown8 hbw8 hP8 c81 f81 hmk hgo hg1s hown' hgrow own1 hP1 hc2
              generalize (w1.setCell ⟨w.heap.size + 1, 0, none⟩ (.slice (some ⟨g', 0, none⟩) (ds.length + 1) cap')) = W8 at hst8 ⊢
              gi_roundg (m - (k + 1))
              case measure => omega
              case rel => exact ⟨k + 1, _, by omega, by omega, by go_num, HPM.out, hst8⟩
    · have hltz : ¬ (k : Int) < (m : Int) := by omega
      obtain rfl : k = m := by omega
      have hgo : parseGo P [] = some ds := by have := HGO.out; rwa [List.take_of_length_le (by rw [HM.out]; omega)] at this
      obtain ⟨v, inner, q1, q2, q3, q4, q5, q6, q7, q8⟩ := HS.out
      obtain ⟨A, c, rfl⟩ := Kd.N_slice (dirs_N q2 q3)
      have c60 : wr.cell? ⟨w.heap.size + 1, 0, none⟩ = some (.slice A ds.length c) := by rw [Lib.cell_of_heap q1]; rfl
      have c61 : wr.cell? ⟨w.heap.size + 1, 1, none⟩ = some (.bool rep) := by rw [Lib.cell_of_heap q1]; rfl
      have a40 : wr.cell? ⟨w.heap.size, 0, none⟩ = some (.slice none 0 0) := by rw [Lib.cell_of_heap q5]; rfl
      have a41 : wr.cell? ⟨w.heap.size, 1, none⟩ = some (.bool false) := by rw [Lib.cell_of_heap q5]; rfl
      have y40 : wr.frozen? ⟨w.heap.size, 0, none⟩ = false := by simp [World.frozen?, q5]
      have y41 : wr.frozen? ⟨w.heap.size, 1, none⟩ = false := by simp [World.frozen?, q5]
      have HGO2 := Lib.hid hgo
      have HQ := Lib.hid (And.intro q2 (And.intro q3 (And.intro q5 q7)))
      clear hgo q1 q2 q3 q5 q6 q7 HS HGO
      gi_wp2
      obtain ⟨q2, q3, q5, q7⟩ := HQ.out
      have kp : ∀ k, w.heap.size + 1 ≤ k → ((wr.setCell ⟨w.heap.size, 0, none⟩ (.slice A ds.length c)).setCell ⟨w.heap.size, 1, none⟩ (.bool rep)).heap[k]? = wr.heap[k]? := fun k hk => by
        rw [Below.heap_setCell _ _ _ k (by show k ≠ w.heap.size; omega), Below.heap_setCell _ _ _ k (by show k ≠ w.heap.size; omega)]
      refine bodyPost_ret (results_ct rfl _ _ w.heap.size 25 #[.slice A ds.length c, .bool rep] (0, 0) _ rfl (by rw [setCell_blk (j := 1) _ (setCell_blk (j := 0) _ q5)]; rfl) Tryz.underlying25 rfl (by kernel_rfl)) rfl ?_
      unfold RefPost
      exact ⟨.inl ⟨ds, .slice A ds.length c, by rw [HP.out]; exact HGO2.out, rfl, inner, owns_lower (owns_move q2 (fun g cells hg _ => kp g (by omega))) (by omega), q3.1, fun j p hj => ((q3.2 j p hj).keep (fun g cells hn hg => kp g (by omega))).lower (by omega)⟩, (q7.setCell (p := ⟨w.heap.size, 0, none⟩) (Nat.le_refl _) _).setCell (p := ⟨w.heap.size, 1, none⟩) (Nat.le_refl _) _⟩
theorem refparse_long (s : ByteArray) (rep : Bool) (hs : ¬ s.size ≤ 4096) (w : World) :
    Calls Tryz.prog 26 #[.string s, .bool rep] w fun e w' => e = .returned (.tuple #[.agg #[.slice none 0 0, .bool false], .int .i64 4]) ∧ Below w.heap.size w w' := by
  have hlt0 : (s.size : Int) > 4096 := by omega
  go_enter Tryz.func26, Tryz.ntmps26
  go_wp2_with fail
  (try simp only [Exit.inBlock, Exit.then])
  refine bodyPost_ret (results_ct rfl _ _ w.heap.size 25 #[.slice none 0 0, .bool false] (0, 0) _ rfl (World.alloc_heap_new w _) Tryz.underlying25 rfl (by kernel_rfl)) rfl ?_
  exact ⟨rfl, (Below.refl _ w).alloc (Nat.le_refl _) _⟩
def bastionref14_Parse.f (a0 : ByteArray) (a1 : Bool) : Option (List S35 × Bool × Int) := csp_Parse.f a0 a1
theorem bastionref14_Parse.calls (a0 : ByteArray) (a1 : Bool) (r1 : List S35) (r2 : Bool) (r3 : Int) (w : World) (h : bastionref14_Parse.f a0 a1 = some (r1, r2, r3)) :
    Calls Tryz.prog 26 #[.string a0, .bool a1] w fun e w' => ∃ v0_ : Value, e = .returned (.tuple #[.agg #[v0_, .bool r2], .int .i64 r3]) ∧ Kd.N k35 35 w' w.heap.size (fun k_ => w.heap.size ≤ k_) v0_ r1 ∧ Below w.heap.size w w' := by
  unfold bastionref14_Parse.f csp_Parse.f at h
  split at h
  · rename_i hs
    have hs' : a0.data.toList.length ≤ 4096 := by rw [Array.length_toList]; exact hs
    refine (callsIn_wide.1 (refparse_in a0.data.toList a1 hs' w)).mono ?_
    rintro e w' ⟨(⟨ds, v, hp, rfl, inner, ho, hr⟩ | ⟨hp, rfl⟩), hb⟩
    · rw [hp] at h
      cases h
      exact ⟨v, rfl, dirs_N ho hr, hb⟩
    · rw [hp] at h
      cases h
      exact ⟨_, rfl, Kd.N_nil _ _ _ _ _, hb⟩
  · rename_i hs
    cases h
    refine (refparse_long a0 a1 hs w).mono ?_
    rintro e w' ⟨rfl, hb⟩
    exact ⟨_, rfl, Kd.N_nil _ _ _ _ _, hb⟩
end Go.Proofs.YtnndgmbflkdhkaaGreatDoor.Q
