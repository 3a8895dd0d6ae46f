/- csp.Header: what it answers at every list of texts. -/
import Derived.Test.YtnndgmbflkdhkaaGreatDoorSHeaderL
import Derived.Sort.LoopGhostIn
import Derived.Deep.RegionHeld
set_option linter.unusedSimpArgs false
set_option linter.unusedVariables false
namespace Go.Proofs.YtnndgmbflkdhkaaGreatDoor.Q
open Go.RowKit Go.Proofs.YtnndgmbflkdhkaaGreatDoorW.PrintWords Go.Proofs.YtnndgmbflkdhkaaGreatDoorW.PrintLast Go.Proofs.YtnndgmbflkdhkaaGreatDoorW.PrintMore Go.Proofs.YtnndgmbflkdhkaaGreatDoor.P1 Go.Proofs.YtnndgmbflkdhkaaGreatDoor.R
attribute [local go_sem] Oper.semAt_some
def hParts (l : List (List UInt8)) : List (List UInt8) := l.flatMap (parts 44)
/-- what lies ready at the return -/
def EndH (w : World) (qs : List S25) (e : Int) (W : World) : Prop :=
  ∃ (v : Value) (inner : List Value), W.heap[w.heap.size + 1]? = some (.cells #[v] 54 (0, 0)) ∧ W.heap[w.heap.size + 2]? = some (.cells #[.int .i64 e] 26 (0, 0)) ∧
    W.ownsRow (w.heap.size + 4) 25 2 v qs.length inner ∧ Reps (PolP (fun g => w.heap.size + 4 ≤ g) (w.heap.size + 4) W) 2 qs inner ∧ Below w.heap.size w W
theorem EndH.put {w A : World} {qs : List S25} {e : Int} (h : EndH w qs e A) (D : Nat) (o o' : Obj) (hb : w.heap.size ≤ D) (hD : A.heap[D]? = some o) (ho : o.isCells = false) : EndH w qs e (A.putObj D o') := by
  obtain ⟨v, inner, h1, h2, h3, h4, h5⟩ := h
  have kp : ∀ (k : Nat) (c : Array Value) (t : TypeId), A.heap[k]? = some (.cells c t (0, 0)) → (A.putObj D o').heap[k]? = A.heap[k]? := fun k c t hk => World.putObj_heap_other (fun e => by
    subst e
    rw [hk] at hD
    cases hD
    cases ho)
  exact ⟨v, inner, (kp _ _ _ h1).trans h1, (kp _ _ _ h2).trans h2, owns_move h3 (fun g cells _ hc => kp g cells _ hc), ⟨h4.1, fun j p hj => (h4.2 j p hj).keep (fun g cells hg hc => ⟨hg, kp g cells _ hc⟩) (fun g cells _ hc => kp g cells _ hc)⟩,
    h5.grown (grownBy_putObj' A D o') (by have := h5.size; omega) (fun k e => by cases e; omega)⟩
theorem header_leaves {F : Fence} {n : Nat} {tmps : Array Value} {w : World} {qs : List S25} {e : Int} (h1 : tmps.getD 4 undef = .pointer (some ⟨w.heap.size + 1, 0, none⟩)) (h2 : tmps.getD 5 undef = .pointer (some ⟨w.heap.size + 2, 0, none⟩))
    (Ds : List Nat) (A : World) (h : EndH w qs e A) (hn : Ds.Nodup) (hD : ∀ D ∈ Ds, w.heap.size + 4 ≤ D ∧ A.heap[D]? = some (.deferred (some []))) :
    LeavesInM F n Tryz.prog Tryz.f24 tmps (fun e' w' => ∃ v, e' = .returned (.tuple #[v, .int .i64 e]) ∧ Kd.N k25 25 w' w.heap.size (fun k => w.heap.size ≤ k) v qs ∧ Below w.heap.size w w') (Ds.map fun D => ({ target := .collected D, args := #[] } : Deferred)) .returning A := by
  refine leaves_marks (St := EndH w qs e) (b := w.heap.size + 4) (fun A D o' hA hb hD => hA.put D _ o' (by omega) hD rfl) ?_ Ds A h hn hD
  rintro A ⟨v, inner, q1, q2, q3, q4, q5⟩
  refine ⟨_, results_ci rfl tmps A (w.heap.size + 1) (w.heap.size + 2) 54 26 v (.int .i64 e) (0, 0) (0, 0) _ .i64 h1 q1 Tryz.underlying54 h2 q2 Tryz.underlying26, v, rfl, ?_, q5⟩
  exact Kd.N_mono (Kd.N_lower (pols_N (fun g hg => hg) q3 q4) (by omega)) (fun k hk => by omega)
set_option maxRecDepth 100000 in
set_option maxHeartbeats 4000000 in
theorem header_in (A : Option Addr) (c : Nat) (l : List (List UInt8)) (rep : Bool) (w : World) (e0 : Int) (qs : List S25) (hl : (hParts l).length ≤ 1099511627776) (hll : l.length ≤ 1099511627776) (hls : ∀ s ∈ l, s.length ≤ 140737488350000) (hC : Kd.C Kd.string w A l.length (l.map B))
    (hr : (e0, qs) = (if (headGo rep (hParts l) []).1 = 0 then (if (headGo rep (hParts l) []).2.length > 64 then (3, []) else (0, (headGo rep (hParts l) []).2)) else ((headGo rep (hParts l) []).1, []))) :
    CallsIn Fence.wide 5 Tryz.prog 24 #[.slice A l.length c, .bool rep] w fun e w' => ∃ v, e = .returned (.tuple #[v, .int .i64 e0]) ∧
      Kd.N k25 25 w' w.heap.size (fun k => w.heap.size ≤ k) v qs ∧ Below w.heap.size w w' := by
  refine callsIn_of_wp_marks Tryz.func24 rfl trivial ?_ rfl
  simp only [Tryz.ntmps24, List.size_toArray, List.length_cons, List.length_nil, Nat.reduceAdd, Nat.reduceSub, Array.replicate_succ, Array.replicate_zero, List.push_toArray, List.append_toArray, List.nil_append, List.cons_append]
  have HC := Lib.hid hC
  have HR := Lib.hid hr
  clear hC hr
  gi_wp2_with fail
  refine wpIn_loop_ghost (fun g a W => ∃ (k : Nat) (Ds : List Nat) (ps : List S25) (u8 u15 u16 u17 u18 u19 u38 : Value), k ≤ l.length ∧ l.length - k ≤ g ∧
    a = { tmps := #[Value.slice A l.length c, Value.bool rep, undef, Value.pointer (some { block := w.heap.size, off := 0 }), Value.pointer (some { block := w.heap.size + 1, off := 0 }), Value.pointer (some { block := w.heap.size + 2, off := 0 }), Value.pointer (some { block := w.heap.size + 3, off := 0 }), undef, u8, undef, undef, undef, Value.slice A l.length c, Value.int IntKind.i64 ↑l.length, Value.int IntKind.i64 (k : Int), u15, u16, u17, u18, u19, undef, undef, undef, undef, undef, undef, undef, undef, undef, undef, undef, undef, undef, undef, undef, undef, undef, undef, u38, undef, undef, undef, undef], defers := Ds.map fun D => ({ target := .collected D, args := #[] } : Deferred) } ∧
    headGo rep (hParts (l.take k)) [] = (0, ps) ∧ StH rep w w.heap.size ps W ∧ Ds.Nodup ∧ ∀ D ∈ Ds, w.heap.size + 4 ≤ D ∧ W.heap[D]? = some (.deferred (some []))) l.length ?start ?round
  case start =>
    refine ⟨0, [], [], undef, undef, undef, undef, undef, undef, undef, Nat.zero_le _, by omega, rfl, rfl, ?_, List.nodup_nil, fun D h => by cases h⟩
    refine ⟨.slice none 0 0, [], ?_, ⟨rfl, .inl ⟨rfl, rfl⟩⟩, ⟨rfl, fun j p hj => by simp at hj⟩, ?_, ?_, ?_, ?_, by simp⟩
    · have := World.alloc_heap_new (((w.alloc (.cells #[.bool rep] 4)).alloc (.cells #[.slice none 0 0] 54)).alloc (.cells #[.int .i64 0] 26)) (.cells #[.slice none 0 0] 54)
      rwa [World.size_alloc, World.size_alloc, World.size_alloc] at this
    · rw [Below.heap_alloc _ _ _ (by simp only [World.size_alloc]; omega), Below.heap_alloc _ _ _ (by simp only [World.size_alloc]; omega), Below.heap_alloc _ _ _ (by simp only [World.size_alloc]; omega)]; exact World.alloc_heap_new w _
    · rw [Below.heap_alloc _ _ _ (by simp only [World.size_alloc]; omega), Below.heap_alloc _ _ _ (by simp only [World.size_alloc]; omega)]
      have := World.alloc_heap_new (w.alloc (.cells #[.bool rep] 4)) (.cells #[.slice none 0 0] 54)
      rwa [World.size_alloc] at this
    · rw [Below.heap_alloc _ _ _ (by simp only [World.size_alloc]; omega)]
      have := World.alloc_heap_new ((w.alloc (.cells #[.bool rep] 4)).alloc (.cells #[.slice none 0 0] 54)) (.cells #[.int .i64 0] 26)
      rwa [World.size_alloc, World.size_alloc] at this
    · exact ((((Below.refl _ w).alloc (Nat.le_refl _) _).alloc (by simp) _).alloc (by simp only [World.size_alloc]; omega) _).alloc (by simp only [World.size_alloc]; omega) _
  case round =>
    rintro g a W ⟨k, Ds, ps, u8, u15, u16, u17, u18, u19, u38, hk, hg, rfl, hgo, hst, hnd, hDs⟩
    by_cases hlt : k < l.length
    · have hltz : (k : Int) < (l.length : Int) := by omega
      obtain ⟨x, hx⟩ : ∃ x, l[k]? = some x := ⟨l[k], List.getElem?_eq_getElem hlt⟩
      have hxm : x ∈ l := List.mem_of_getElem? hx
      have hxs := hls x hxm
      have hbw : Below w.heap.size w W := by obtain ⟨_, _, _, _, _, _, _, _, h, _⟩ := hst; exact h
      have hWs : w.heap.size + 4 ≤ W.heap.size := by obtain ⟨_, _, _, _, _, _, _, _, _, h⟩ := hst; exact h
      obtain ⟨ad, cs, rfl, hcl, hK, hcc⟩ := Kd.C_get (Kd.C_below HC.out hbw) (⟨#[]⟩ : ByteArray) (k : Int) (by omega) (by omega)
      rw [Int.toNat_natCast] at hK hcc
      have hgx : (l.map B).getD k ⟨#[]⟩ = B x := by rw [List.getD_eq_getElem?_getD, List.getElem?_map, hx]; rfl
      rw [hgx] at hK
      have hcs : cs = [.string (B x)] := hK
      subst hcs
      have k0 : W.cell? (ad.add k) = some (.string (B x)) := by have := hcc 0 _ rfl; rwa [show k * Kd.string.sz + 0 = k from by show k * 1 + 0 = k; omega] at this
      have hok : hParts (l.take (k + 1)) = hParts (l.take k) ++ parts 44 x := by
        unfold hParts
        rw [List.take_add_one, hx]
        simp
      have hall : hParts l = hParts (l.take (k + 1)) ++ hParts (l.drop (k + 1)) := by
        unfold hParts
        rw [← List.flatMap_append, List.take_append_drop]
      have hplen : (hParts (l.take k)).length + (parts 44 x).length ≤ 1099511627776 := by
        have := congrArg List.length hall
        rw [hok, List.length_append, List.length_append] at this
        omega
      have HST := Lib.hid hst
      have HDS := Lib.hid (And.intro hnd hDs)
      have HGO := Lib.hid hgo
      clear hcl hK hcc hgx hst hnd hDs hgo
      gi_wp2_with fail
      refine ⟨trivial, ?_⟩
      refine (callsIn_wide.2 (splitSeq_calls _ _ _)).mono ?_
      rintro e W0 ⟨rfl, hb0, hsz0, hB0, hB1, hB2⟩
      have hDlt : ∀ D ∈ Ds, D < W.heap.size := fun D hD => blk_lt0 (HDS.out.2 D hD).2
      have hDlo : ∀ D ∈ Ds, w.heap.size + 4 ≤ D := fun D hD => (HDS.out.2 D hD).1
      have hst0 : StH rep w W.heap.size ps W0 := HST.out.move (by omega) (fun h => h.trans (hb0.mono (by omega))) (fun k c e _ hc => hb0.block k (blk_lt0 hc)) (fun k c _ _ hc => ⟨by have := blk_lt0 hc; omega, hb0.block k (blk_lt0 hc)⟩)
      have hmk0 : ∀ D ∈ Ds, W0.heap[D]? = some (.deferred (some [])) := fun D hD => (hb0.block D (hDlt D hD)).trans (HDS.out.2 D hD).2
      have hroom : W.heap.size < W0.heap.size := by omega
      have hwr : IntKind.i64.wrap ((k : Int) + 1) = ((k + 1 : Nat) : Int) := by rw [wrap_small _ (by omega) (by omega)]; omega
      clear hb0
      gi_wp2_with fail
      refine range_stop (n := 5) (w := W0) (F := Fence.wide) (T := 9) (ps := #[20]) (xs := parts 44 x) (encs := fun x : List UInt8 => #[Value.string (B x)]) (Kp := KpS W.heap.size) rfl (by omega) (gf := 82) (lb := #[.pointer (some ⟨W.heap.size + 1, 0, none⟩), .pointer (some ⟨W.heap.size, 0, none⟩), .pointer (some ⟨W.heap.size + 2, 0, none⟩)]) rfl trivial (enters_of Tryz.func82 (by kernel_rfl) rfl) W.heap.size hroom ?seq ?kt ?kb (fun _ => rfl)
        (fun pre V => (∃ ps', headGo rep (hParts (l.take k) ++ pre) [] = (0, ps') ∧ StH rep w W.heap.size ps' V) ∧ (∃ c f, V.heap[W.heap.size]? = some (.cells c 9 f)) ∧ (∀ D ∈ Ds, V.heap[D]? = some (.deferred (some []))) ∧ (W0.heap.size ≤ V.heap.size ∧ V.heap[W.heap.size + 1]? = W0.heap[W.heap.size + 1]? ∧ V.heap[W.heap.size + 2]? = W0.heap[W.heap.size + 2]?))
        (fun V => ∃ e1, e1 ≠ 0 ∧ headGo rep (hParts l) [] = (e1, []) ∧ EndH w [] e1 V ∧ ∀ D ∈ Ds, V.heap[D]? = some (.deferred (some []))) ?stable ?outs ?start ?a1 ?assign ?body ?stop ?done
      case assign =>
        intro lp x W K hK
        gi_wp2
        exact hK
      case seq =>
        intro lp J Jx V hlp hb hJ hY h0
        exact split_in W.heap.size 44 x (by omega) lp J Jx hJ hY V ((hb.block _ (by omega)).trans hB0) ((hb.block _ (by omega)).trans hB1) ((hb.block _ (by omega)).trans hB2) h0
      case kt => intro A C D h k; exact ⟨k.1.trans h.1, k.2.1.trans h.2.1, k.2.2.trans h.2.2⟩
      case kb =>
        intro V lp o o' hlp ho hc
        exact ⟨World.putObj_heap_other (by omega), World.putObj_heap_other (by omega), World.putObj_heap_other (by omega)⟩
      case start => exact ⟨⟨ps, by rw [List.append_nil]; exact HGO.out, hst0⟩, ⟨_, _, hB0⟩, hmk0, Nat.le_refl _, rfl, rfl⟩
      case stable =>
        rintro pre A C row ⟨⟨ps', h1, h2⟩, h3, h4, h5⟩ hg9 hr9
        refine ⟨⟨ps', h1, h2.grown h3 (by omega) hg9 (fun r e => ?_)⟩, ?_, fun D hD => ?_, Nat.le_trans h5.1 hg9.size, ?_, ?_⟩
        · rcases hr9 r e with ⟨e1, _⟩ | ⟨e1, e2⟩
          · exact .inl e1
          · exact .inr ⟨by omega, e2⟩
        · by_cases hrow : row = some W.heap.size
          · rcases hr9 _ hrow with ⟨_, x9, hx9⟩ | ⟨hle, _⟩
            · exact ⟨_, _, hx9⟩
            · omega
          · obtain ⟨c9, f9, h3⟩ := h3
            exact ⟨c9, f9, (hg9.block _ (blk_lt0 h3) (fun e => hrow e.symm)).trans h3⟩
        · refine (hg9.block D (blk_lt0 (h4 D hD)) (fun e => ?_)).trans (h4 D hD)
          have := hDlt D hD
          rcases hr9 D e.symm with ⟨e1, _⟩ | ⟨e1, _⟩ <;> omega
        · refine (hg9.block _ (by have := h5.1; omega) (fun e => ?_)).trans h5.2.1
          rcases hr9 _ e.symm with ⟨e1, _⟩ | ⟨e1, _⟩ <;> omega
        · refine (hg9.block _ (by have := h5.1; omega) (fun e => ?_)).trans h5.2.2
          rcases hr9 _ e.symm with ⟨e1, _⟩ | ⟨e1, _⟩ <;> omega
      case outs =>
        rintro A lp o o' ⟨e1, h1, h2, h3, h4⟩ hlp ho hc
        exact ⟨e1, h1, h2, h3.put lp o o' (by omega) ho hc, fun D hD => (World.putObj_heap_other (by have := hDlt D hD; omega)).trans (h4 D hD)⟩
      case stop =>
        rintro D V hD ⟨e1, h1, h2, h3, h4⟩ hK
        gi_wp2
        have hr := HR.out
        rw [h2] at hr
        simp only [if_neg h1] at hr
        obtain ⟨rfl, rfl⟩ := Prod.mk.inj hr
        exact header_leaves rfl rfl (D :: Ds) V h3 (List.nodup_cons.2 ⟨fun h => by have := hDlt D h; omega, HDS.out.1⟩) (fun E hE => by
          rcases List.mem_cons.1 hE with rfl | hE
          · exact ⟨by omega, hK⟩
          · exact ⟨hDlo E hE, h4 E hE⟩)
      case done =>
        rintro D V hD ⟨⟨ps', h1, h2⟩, h3, h4, h5⟩ hK
        gi_wp2
        refine ⟨g - 1, by omega, k + 1, D :: Ds, ps', .string (B x), .bool true, .pointer (some (ad.add k)), .string (B x), .string (B x), .func (.func 82) #[] #[.pointer (some ⟨W.heap.size + 1, 0, none⟩), .pointer (some ⟨W.heap.size, 0, none⟩), .pointer (some ⟨W.heap.size + 2, 0, none⟩)], .int .i64 ((k : Int) + 1), by omega, by omega, rfl, by rw [hok]; exact h1, h2.move (Nat.le_refl _) id (fun _ _ _ _ _ => rfl) (fun k9 c9 hk9 _ hc9 => ⟨by omega, rfl⟩), List.nodup_cons.2 ⟨fun h => by have := hDlt D h; omega, HDS.out.1⟩, fun E hE => ?_⟩
        rcases List.mem_cons.1 hE with rfl | hE
        · exact ⟨by omega, hK⟩
        · exact ⟨hDlo E hE, h4 E hE⟩
      case body =>
        rintro lp pre y V ⟨⟨ps', h1, h2⟩, h3, h4, hV0⟩ hpre
        obtain ⟨c9, f9, h3⟩ := h3
        obtain ⟨tl, htl⟩ := hpre
        have hpl : (hParts (l.take k)).length + pre.length + 1 ≤ 1099511627776 := by
          have := congrArg List.length htl
          simp only [List.length_append, List.length_singleton] at this
          omega
        have hnl : ps'.length ≤ (hParts (l.take k)).length + pre.length := by
          have := headGo_len rep (hParts (l.take k) ++ pre) []
          rw [h1, List.length_append] at this
          simpa using this
        have hgy : headGo rep (hParts (l.take k) ++ (pre ++ [y])) [] = headGo rep [y] ps' := by
          rw [← List.append_assoc, headGo_append, h1]; rfl
        have hgz : (pErr y).1 = 0 → headGo rep (hParts (l.take k) ++ (pre ++ [y])) [] = (0, if (pErr y).2 = [] then ps' else ps' ++ [⟨(pErr y).2, rep⟩]) := fun hz => by
          rw [hgy, headGo_cons, if_pos hz]; rfl
        have hgl : (pErr y).1 ≠ 0 → headGo rep (hParts l) [] = ((pErr y).1, []) := fun hne => by
          have e : hParts l = (hParts (l.take k) ++ (pre ++ [y])) ++ (tl ++ hParts (l.drop (k + 1))) := by
            rw [hall, hok, ← htl]
            simp
          rw [e, headGo_append, hgy]
          show (if (headGo rep [y] ps').1 = 0 then _ else ((headGo rep [y] ps').1, [])) = _
          rw [headGo_cons, if_neg hne]
          simp only [if_neg hne]
        have hb0 : V.cell? ⟨w.heap.size, 0, none⟩ = some (.bool rep) := by obtain ⟨_, _, _, _, _, h, _⟩ := h2; rw [Lib.cell_of_heap h]; rfl
        have hVs : W.heap.size < V.heap.size := blk_lt0 h3
        have HGL := Lib.hid (And.intro hgz hgl)
        have HH := Lib.hid (And.intro h2 (And.intro h3 h4))
        have HS := Lib.hid (And.intro hsz0 hV0)
        have HL := Lib.hid (And.intro hall hok)
        clear hgy hgz hgl h1 h2 h3 h4 htl hsz0 hV0 hall hok
        gi_wp2_with fail
        refine ⟨trivial, ?_⟩
        refine (((callsIn_wide (n := 2)).2 (parse_raw y rep _)).inRound lp).mono ?_
        rintro e V1 ⟨⟨v1, inner1, b1, rfl, hbr, ho1, hr1⟩, hb1⟩
        obtain ⟨h2, h3, h4⟩ := HH.out
        have hs1 := h2.below hb1
        have h31 := blk_keep h3 hb1
        have hmk1 : ∀ D ∈ Ds, V1.heap[D]? = some (.deferred (some [])) := fun D hD => (hb1.block D (blk_lt0 (h4 D hD))).trans (h4 D hD)
        have hkf : KeepsFrom W0.heap.size V V1 := KeepsFrom.of_grownBy (grown_of_below hb1 none) (fun j e => by cases e)
        obtain ⟨A2, c2, rfl⟩ := Kd.N_slice (dirs_N ho1 hr1)
        have HO1 := Lib.hid (And.intro ho1 hr1)
        have HBR := Lib.hid hbr
        clear ho1 hr1 hbr
        generalize pErr y = pe at HGL HBR HO1 ⊢
        obtain ⟨e1, ds1⟩ := pe
        simp only at HGL HBR HO1 ⊢
        obtain ⟨v, inner, q1, q2, q3, q4, q5, q6, q7, q8⟩ := hs1
        have e2 : ∀ k c t f, V1.heap[k]? = some (Obj.cells c t f) → (V1.alloc (.cells #[.slice A2 ds1.length c2, .bool b1] 25)).heap[k]? = some (Obj.cells c t f) := fun k c t f h => (Below.heap_alloc _ _ _ (blk_lt0 h)).trans h
        have a10 : (V1.alloc (.cells #[.slice A2 ds1.length c2, .bool b1] 25)).cell? ⟨w.heap.size + 1, 0, none⟩ = some (.slice none 0 0) := by rw [Lib.cell_of_heap (e2 _ _ _ _ q5)]; rfl
        have a20 : (V1.alloc (.cells #[.slice A2 ds1.length c2, .bool b1] 25)).cell? ⟨w.heap.size + 2, 0, none⟩ = some (.int .i64 0) := by rw [Lib.cell_of_heap (e2 _ _ _ _ q6)]; rfl
        have y10 : (V1.alloc (.cells #[.slice A2 ds1.length c2, .bool b1] 25)).frozen? ⟨w.heap.size + 1, 0, none⟩ = false := by simp [World.frozen?, e2 _ _ _ _ q5]
        have y20 : (V1.alloc (.cells #[.slice A2 ds1.length c2, .bool b1] 25)).frozen? ⟨w.heap.size + 2, 0, none⟩ = false := by simp [World.frozen?, e2 _ _ _ _ q6]
        have hV1 := hb1.size
        have hbb1 : Below w.heap.size w V1 := q7
        have HQ := Lib.hid (And.intro q1 (And.intro q2 (And.intro q3 (And.intro q4 (And.intro q5 q6)))))
        have HKF := Lib.hid hkf
        have HM1 := Lib.hid (And.intro h31 hmk1)
        by_cases he : e1 = 0
        · subst he
          cases ds1 with
          | nil =>
            clear q1 q2 q3 q4 q5 q6 q7 hkf h31 hmk1 h2 h3 h4
            gi_wp2
            obtain ⟨hsz0, hV0, hV1', hV2'⟩ := HS.out
            have hal : Below V.heap.size V (V1.alloc (.cells #[.slice A2 0 c2, .bool b1] 25)) := hb1.alloc hb1.size _
            have hal1 : Below V1.heap.size V1 (V1.alloc (.cells #[.slice A2 0 c2, .bool b1] 25)) := (Below.refl _ _).alloc (Nat.le_refl _) _
            refine ⟨HKF.out.trans (KeepsFrom.of_grownBy (grown_of_below hal1 none) (fun j e => by cases e)), ⟨hal.block _ (by omega), hal.block _ (by omega), hal.block _ (by omega)⟩, ⟨ps', by have := HGL.out.1 (by simp); simpa using this, StH.below ⟨v, inner, HQ.out.1, HQ.out.2.1, HQ.out.2.2.1, HQ.out.2.2.2.1, HQ.out.2.2.2.2.1, HQ.out.2.2.2.2.2, hbb1, q8⟩ hal1⟩, ⟨c9, f9.1, f9.2, blk_keep HM1.out.1 hal1⟩, fun D hD => ?_, by simp; omega, (hal.block _ (by omega)).trans hV1', (hal.block _ (by omega)).trans hV2'⟩
            exact (hal1.block D (blk_lt0 (HM1.out.2 D hD))).trans (HM1.out.2 D hD)
          | cons d1 ds2 =>
            have hlz : ((d1 :: ds2).length : Int) > 0 := by simp
            obtain rfl := HBR.out rfl
            obtain ⟨A1, c1, rfl⟩ := Kd.N_slice (pols_N (fun g hg => hg.1) q2 q3)
            have hog : ∀ k, (Value.slice A1 ps'.length c1).ownBlock = some k → w.heap.size + 4 ≤ k ∧ ∃ cur, V1.heap[k]? = some (.cells cur 25 (0, 0)) := fun k hk => by
              rcases q2.2 with ⟨h9, _⟩ | ⟨g9, cap9, cur9, h9, h91, h92, _⟩
              · rw [h9] at hk; cases hk
              · rw [h9] at hk; cases hk; exact ⟨h91, _, h92⟩
            generalize hnn : (d1 :: ds2).length = nn at hlz HO1 a10 a20 y10 y20 e2 ⊢
            have c3 : (V1.alloc (.cells #[.slice A2 nn c2, .bool b1] 25)).cell? ⟨w.heap.size + 3, 0, none⟩ = some (.slice A1 ps'.length c1) := by rw [Lib.cell_of_heap (e2 _ _ _ _ q1)]; rfl
            have hmk : ∀ w1, ((V1.alloc (.cells #[.slice A2 nn c2, .bool b1] 25)).alloc (.cells #[.slice A2 nn c2, .bool b1] 25)).grownBy w1 (Value.slice A1 ps'.length c1).ownBlock → ∀ (k : Nat) (o9 : Obj), V1.heap[k]? = some o9 → (∀ cur, o9 ≠ Obj.cells cur 25 (0, 0)) → w1.heap[k]? = some o9 := fun w1 hg9 k o9 hk hno => by
              have hlt := blk_lt0 hk
              rw [hg9.block k (by simp; omega) (fun e => by obtain ⟨_, cur, h9⟩ := hog k e.symm; rw [hk] at h9; exact hno cur (Option.some.inj h9)), Below.heap_alloc _ _ _ (by simp; omega), Below.heap_alloc _ _ _ hlt]
              exact hk
            have hc2 : ∀ j u, ([.slice A2 nn c2, .bool b1] : List Value)[j]? = some u → ((V1.alloc (.cells #[.slice A2 nn c2, .bool b1] 25)).alloc (.cells #[.slice A2 nn c2, .bool b1] 25)).cell? ((⟨V1.heap.size + 1, 0, none⟩ : Addr).add j) = some u := by
              have := cell_two_new (V1.alloc (.cells #[.slice A2 nn c2, .bool b1] 25)) (.slice A2 nn c2) (.bool b1) 25
              rwa [World.size_alloc] at this
            obtain ⟨i0, hi0, hz0, hz1, hz2⟩ := info_parts infoPol
            have own1 := q2
            have hP1 := q1
            clear q1 q2 q3 q4 q5 q6 q7 hkf h31 hmk1 h2 h3 h4 a10 a20 y10 y20 e2
            gi_wp2_with (gi_at_builtin; refine wpListIn_append_own _ rfl _ _ 54 rfl (w.heap.size + 4) 25 i0 (.agg #[.slice none 0 0, .bool false]) 2 32 Tryz.underlying54 hi0 hz0 hz1 hz2 rfl (by decide) _ _ _ rfl ((own1.alloc _).alloc _) ⟨V1.heap.size + 1, 0, none⟩ 1 1 [.slice A2 nn c2, .bool b1] rfl rfl hc2 (by intro u hu; simp at hu; rcases hu with rfl | rfl <;> rfl) (by unfold maxLen; omega) (by omega) (by simp; omega) ?_; intro v' w1 hown' hgrow _; obtain ⟨g', cap', rfl⟩ := ownsRow_succ hown'; have hP8 := hmk w1 hgrow _ _ hP1 (fun cur e => by cases e); have c81 : w1.cell? ⟨w.heap.size + 3, 0, none⟩ = some (.slice A1 ps'.length c1) := (by rw [Lib.cell_of_heap hP8]; rfl); have f81 : w1.frozen? ⟨w.heap.size + 3, 0, none⟩ = false := (by simp [World.frozen?, hP8]))
            obtain ⟨hsz0, hV0, hV1', hV2'⟩ := HS.out
            obtain ⟨h1q, h2q, h3q, h4q, h5q, h6q⟩ := HQ.out
            obtain ⟨ho1, hr1⟩ := HO1.out
            obtain ⟨hm1, hm2⟩ := HM1.out
            have hg1s := hgrow.size
            simp only [World.size_alloc] at hg1s
            have hgo : w.heap.size + 4 ≤ g' := by
              rcases hown'.2 with ⟨h9, _⟩ | ⟨g9, cap9, cur9, h9, h91, _⟩
              · cases h9
              · cases h9; exact h91
            have hset : ∀ k, k ≠ w.heap.size + 3 → (w1.setCell ⟨w.heap.size + 3, 0, none⟩ (.slice (some ⟨g', 0, none⟩) (ps'.length + 1) cap')).heap[k]? = w1.heap[k]? := fun k hk => Below.heap_setCell _ _ _ k hk
            have hsz8 : (w1.setCell ⟨w.heap.size + 3, 0, none⟩ (.slice (some ⟨g', 0, none⟩) (ps'.length + 1) cap')).heap.size = w1.heap.size := by simp
            have hk8 : ∀ (k : Nat) (o9 : Obj), V1.heap[k]? = some o9 → (∀ cur, o9 ≠ Obj.cells cur 25 (0, 0)) → k ≠ w.heap.size + 3 → (w1.setCell ⟨w.heap.size + 3, 0, none⟩ (.slice (some ⟨g', 0, none⟩) (ps'.length + 1) cap')).heap[k]? = some o9 := fun k o9 h9 hno hne => (hset k hne).trans (hmk w1 hgrow k o9 h9 hno)
            have hpb8 : (w1.setCell ⟨w.heap.size + 3, 0, none⟩ (.slice (some ⟨g', 0, none⟩) (ps'.length + 1) cap')).heap[w.heap.size + 3]? = some (.cells #[.slice (some ⟨g', 0, none⟩) (ps'.length + 1) cap'] 54 (0, 0)) := by rw [setCell_blk (j := 0) _ hP8]; rfl
            have hown8 := hown'.kept (grownBy_setCell' w1 (w.heap.size + 3) (.slice (some ⟨g', 0, none⟩) (ps'.length + 1) cap')) (.inr (fun e => by have e2 : g' = w.heap.size + 3 := Option.some.inj e; omega))
            have hbw8 : Below w.heap.size w (w1.setCell ⟨w.heap.size + 3, 0, none⟩ (.slice (some ⟨g', 0, none⟩) (ps'.length + 1) cap')) := (((hbb1.alloc (by omega) _).alloc (by simp only [World.size_alloc]; omega) _).grown hgrow (by simp only [World.size_alloc]; omega) (fun k e => by obtain ⟨h9, _⟩ := hog k e; omega)).setCell (p := ⟨w.heap.size + 3, 0, none⟩) (by show _ ≤ w.heap.size + 3; omega) _
            show KeepsFrom W0.heap.size V (w1.setCell ⟨w.heap.size + 3, 0, none⟩ _) ∧ KpS _ V (w1.setCell ⟨w.heap.size + 3, 0, none⟩ _) ∧ (∃ ps', _ ∧ StH b1 w W.heap.size ps' (w1.setCell ⟨w.heap.size + 3, 0, none⟩ _)) ∧ _ ∧ _ ∧ _
            generalize (w1.setCell ⟨w.heap.size + 3, 0, none⟩ (.slice (some ⟨g', 0, none⟩) (ps'.length + 1) cap')) = W8 at hset hsz8 hk8 hpb8 hown8 hbw8 ⊢
            have hs8 : ∀ (k : Nat) (c : Array Value) (f : Nat × Nat), V1.heap[k]? = some (.cells c 9 f) → W8.heap[k]? = V1.heap[k]? := fun k c f hk => (hk8 k _ hk (fun cur e => by cases e) (fun e => by subst e; rw [h1q] at hk; cases hk)).trans hk.symm
            have hi8 : ∀ (k : Nat) (c : Array Value) (f : Nat × Nat), V1.heap[k]? = some (.cells c 3 f) → W8.heap[k]? = V1.heap[k]? := fun k c f hk => (hk8 k _ hk (fun cur e => by cases e) (fun e => by subst e; rw [h1q] at hk; cases hk)).trans hk.symm
            have hd8 : ∀ (k : Nat) (c : Array Value) (f : Nat × Nat), V1.heap[k]? = some (.cells c 35 f) → W8.heap[k]? = V1.heap[k]? := fun k c f hk => (hk8 k _ hk (fun cur e => by cases e) (fun e => by subst e; rw [h1q] at hk; cases hk)).trans hk.symm
            have hB1' : W0.heap[W.heap.size + 1]? = some (.cells #[.string ⟨#[44]⟩] 9 (0, 0)) := hB1
            have hB2' : W0.heap[W.heap.size + 2]? = some (.cells #[.int .i64 0] 3 (0, 0)) := hB2
            have x1 : V1.heap[W.heap.size + 1]? = V.heap[W.heap.size + 1]? := hb1.block _ (by omega)
            have x2 : V1.heap[W.heap.size + 2]? = V.heap[W.heap.size + 2]? := hb1.block _ (by omega)
            have w1' : W8.heap[W.heap.size + 1]? = V1.heap[W.heap.size + 1]? := hs8 _ _ _ (x1.trans (hV1'.trans hB1'))
            have w2' : W8.heap[W.heap.size + 2]? = V1.heap[W.heap.size + 2]? := hi8 _ _ _ (x2.trans (hV2'.trans hB2'))
            refine ⟨HKF.out.trans ⟨by omega, fun k o' hk ho hc => hk8 k o' ho (fun cur e => by subst e; cases hc) (by omega)⟩, ⟨(hs8 _ _ _ hm1).trans (hb1.block _ (by omega)), w1'.trans x1, w2'.trans x2⟩, ⟨ps' ++ [⟨d1 :: ds2, b1⟩], by have := HGL.out.1 (by simp); simpa using this, _, inner ++ [.slice A2 nn c2, .bool b1], hpb8, ?_, Reps.snoc ⟨h3q.1, fun j p hj => (h3q.2 j p hj).keep (fun g cells hg hc => ⟨hg, hs8 _ _ _ hc⟩) (fun g cells _ hc => hd8 _ _ _ hc)⟩ ?_ rfl, ?_, ?_, ?_, hbw8, by omega⟩, ⟨_, _, _, (hs8 _ _ _ hm1).trans hm1⟩, fun D hD => hk8 D _ (hm2 D hD) (fun cur e => by cases e) (by have := hDlo D hD; omega), by omega, w1'.trans (x1.trans hV1'), w2'.trans (x2.trans hV2')⟩
            · rw [List.length_append, List.length_singleton]; exact hown8
            · refine ⟨_, inner1, rfl, ?_, hr1.1, fun j p hj => (DirP.of (hr1.2 j p hj) (fun g hg _ => ⟨by omega, by omega⟩)).keep (fun g cells hg hc => ⟨hg, hs8 _ _ _ hc⟩)⟩
              show W8.ownsRow _ _ _ _ (d1 :: ds2).length _
              rw [hnn]
              exact owns_lower (owns_move ho1 (fun g cells _ hc => hd8 _ _ _ hc)) (by omega)
            · exact hk8 _ _ h4q (fun cur e => by cases e) (by omega)
            · exact hk8 _ _ h5q (fun cur e => by cases e) (by omega)
            · exact hk8 _ _ h6q (fun cur e => by cases e) (by omega)
        · clear h2 h3 h4
          gi_wp2
          obtain ⟨hsz0, hV0, hV1', hV2'⟩ := HS.out
          have kp : ∀ k, k < V1.heap.size → k ≠ w.heap.size + 1 → k ≠ w.heap.size + 2 → (((V1.alloc (.cells #[.slice A2 ds1.length c2, .bool b1] 25)).setCell ⟨w.heap.size + 1, 0, none⟩ (.slice none 0 0)).setCell ⟨w.heap.size + 2, 0, none⟩ (.int .i64 e1)).heap[k]? = V1.heap[k]? := fun k hk hk1 hk2 => by
            rw [Below.heap_setCell _ _ _ k (by show k ≠ w.heap.size + 2; omega), Below.heap_setCell _ _ _ k (by show k ≠ w.heap.size + 1; omega), Below.heap_alloc _ _ _ hk]
          refine ⟨HKF.out.trans ⟨by simp, fun k o' hk ho hc => (kp k (blk_lt0 ho) (by omega) (by omega)).trans ho⟩, rfl, e1, he, HGL.out.2 he, ⟨.slice none 0 0, [], ?_, ?_, ⟨rfl, .inl ⟨rfl, rfl⟩⟩, ⟨rfl, fun j p hj => by simp at hj⟩, ((hbb1.alloc (by omega) _).setCell (p := ⟨w.heap.size + 1, 0, none⟩) (by show _ ≤ w.heap.size + 1; omega) _).setCell (p := ⟨w.heap.size + 2, 0, none⟩) (by show _ ≤ w.heap.size + 2; omega) _⟩, fun D hD => (kp D (blk_lt0 (HM1.out.2 D hD)) (by have := hDlo D hD; omega) (by have := hDlo D hD; omega)).trans (HM1.out.2 D hD)⟩
          · rw [Below.heap_setCell _ _ _ _ (by show w.heap.size + 1 ≠ w.heap.size + 2; omega), setCell_blk (j := 0) _ (e2 _ _ _ _ q5)]; rfl
          · have q6' : ((V1.alloc (.cells #[.slice A2 ds1.length c2, .bool b1] 25)).setCell ⟨w.heap.size + 1, 0, none⟩ (.slice none 0 0)).heap[w.heap.size + 2]? = some (.cells #[.int .i64 0] 26 (0, 0)) := by
              rw [Below.heap_setCell _ _ _ _ (by show w.heap.size + 2 ≠ w.heap.size + 1; omega)]; exact e2 _ _ _ _ q6
            rw [setCell_blk (j := 0) _ q6']; rfl
    · have hltz : ¬ (k : Int) < (l.length : Int) := by omega
      obtain rfl : k = l.length := by omega
      rw [List.take_length] at hgo
      obtain ⟨v, inner, q1, q2, q3, q4, q5, q6, q7, q8⟩ := hst
      obtain ⟨A1, c1, rfl⟩ := Kd.N_slice (pols_N (fun g hg => hg.1) q2 q3)
      have c3 : W.cell? ⟨w.heap.size + 3, 0, none⟩ = some (.slice A1 ps.length c1) := by rw [Lib.cell_of_heap q1]; rfl
      have c10 : W.cell? ⟨w.heap.size + 1, 0, none⟩ = some (.slice none 0 0) := by rw [Lib.cell_of_heap q5]; rfl
      have c20 : W.cell? ⟨w.heap.size + 2, 0, none⟩ = some (.int .i64 0) := by rw [Lib.cell_of_heap q6]; rfl
      have z10 : W.frozen? ⟨w.heap.size + 1, 0, none⟩ = false := by simp [World.frozen?, q5]
      have z20 : W.frozen? ⟨w.heap.size + 2, 0, none⟩ = false := by simp [World.frozen?, q6]
      have HG := Lib.hid hgo
      have HQ := Lib.hid (And.intro q1 (And.intro q2 (And.intro q3 (And.intro q5 (And.intro q6 (And.intro q7 (And.intro hnd hDs)))))))
      clear hgo q1 q2 q3 q4 q5 q6 q7 hnd hDs
      by_cases h64 : ps.length > 64
      · have h64z : (ps.length : Int) > 64 := by omega
        gi_wp2
        obtain ⟨q1, q2, q3, q5, q6, q7, hnd, hDs⟩ := HQ.out
        have hr := HR.out
        rw [HG.out] at hr
        simp only [if_true, if_pos h64] at hr
        obtain ⟨rfl, rfl⟩ := Prod.mk.inj hr
        refine header_leaves rfl rfl Ds _ ⟨.slice none 0 0, [], ?_, ?_, ⟨rfl, .inl ⟨rfl, rfl⟩⟩, ⟨rfl, fun j p hj => by simp at hj⟩, (q7.setCell (p := ⟨w.heap.size + 1, 0, none⟩) (by show _ ≤ w.heap.size + 1; omega) _).setCell (p := ⟨w.heap.size + 2, 0, none⟩) (by show _ ≤ w.heap.size + 2; omega) _⟩ hnd (fun D hD => ⟨(hDs D hD).1, ?_⟩)
        · rw [Below.heap_setCell _ _ _ _ (by show w.heap.size + 1 ≠ w.heap.size + 2; omega), setCell_blk (j := 0) _ q5]; rfl
        · have q6' : (W.setCell ⟨w.heap.size + 1, 0, none⟩ (.slice none 0 0)).heap[w.heap.size + 2]? = some (.cells #[.int .i64 0] 26 (0, 0)) := by
            rw [Below.heap_setCell _ _ _ _ (by show w.heap.size + 2 ≠ w.heap.size + 1; omega)]; exact q6
          rw [setCell_blk (j := 0) _ q6']; rfl
        · have := (hDs D hD).1
          rw [Below.heap_setCell _ _ _ _ (by show D ≠ w.heap.size + 2; omega), Below.heap_setCell _ _ _ _ (by show D ≠ w.heap.size + 1; omega)]; exact (hDs D hD).2
      · have h64z : ¬ (ps.length : Int) > 64 := by omega
        gi_wp2
        obtain ⟨q1, q2, q3, q5, q6, q7, hnd, hDs⟩ := HQ.out
        have hr := HR.out
        rw [HG.out] at hr
        simp only [if_true, if_neg h64] at hr
        obtain ⟨rfl, rfl⟩ := Prod.mk.inj hr
        have kp : ∀ k, w.heap.size + 3 ≤ k → ((W.setCell ⟨w.heap.size + 1, 0, none⟩ (.slice A1 qs.length c1)).setCell ⟨w.heap.size + 2, 0, none⟩ (.int .i64 0)).heap[k]? = W.heap[k]? := fun k hk => by
          rw [Below.heap_setCell _ _ _ k (by show k ≠ w.heap.size + 2; omega), Below.heap_setCell _ _ _ k (by show k ≠ w.heap.size + 1; omega)]
        refine header_leaves rfl rfl Ds _ ⟨.slice A1 qs.length c1, inner, ?_, ?_, owns_move q2 (fun g cells hg _ => kp g (by omega)), ⟨q3.1, fun j p hj => (q3.2 j p hj).keep (fun g cells hg _ => ⟨hg.1, kp g (by omega)⟩) (fun g cells hg _ => kp g (by omega))⟩, (q7.setCell (p := ⟨w.heap.size + 1, 0, none⟩) (by show _ ≤ w.heap.size + 1; omega) _).setCell (p := ⟨w.heap.size + 2, 0, none⟩) (by show _ ≤ w.heap.size + 2; omega) _⟩ hnd (fun D hD => ⟨(hDs D hD).1, (kp D (by have := (hDs D hD).1; omega)).trans (hDs D hD).2⟩)
        · rw [Below.heap_setCell _ _ _ _ (by show w.heap.size + 1 ≠ w.heap.size + 2; omega), setCell_blk (j := 0) _ q5]; rfl
        · have q6' : (W.setCell ⟨w.heap.size + 1, 0, none⟩ (.slice A1 qs.length c1)).heap[w.heap.size + 2]? = some (.cells #[.int .i64 0] 26 (0, 0)) := by
            rw [Below.heap_setCell _ _ _ _ (by show w.heap.size + 2 ≠ w.heap.size + 1; omega)]; exact q6
          rw [setCell_blk (j := 0) _ q6']; rfl
theorem parts_count (c : UInt8) : ∀ l : List UInt8, (parts c l).length ≤ l.length + 1
  | [] => by simp [parts]
  | b :: r => by
    have ih := parts_count c r
    unfold parts
    split
    · simp; omega
    · split
      · simp
      · rename_i p ps hp
        rw [hp] at ih
        simp at ih ⊢
        omega
theorem hParts_count : ∀ l : List (List UInt8), (hParts l).length ≤ ((l.map B).map fun s => s.size + 1).sum ∧ l.length ≤ ((l.map B).map fun s => s.size + 1).sum ∧ ∀ s ∈ l, s.length ≤ ((l.map B).map fun s => s.size + 1).sum
  | [] => by simp [hParts]
  | x :: l => by
    obtain ⟨h1, h2, h3⟩ := hParts_count l
    have h4 := parts_count 44 x
    have e : hParts (x :: l) = parts 44 x ++ hParts l := by simp [hParts]
    rw [e]
    simp only [List.map_cons, List.sum_cons, List.length_append, List.length_cons, B_size]
    refine ⟨by omega, by omega, fun s hs => ?_⟩
    rcases List.mem_cons.1 hs with rfl | hs
    · omega
    · have := h3 s hs; omega
def headF (rep : Bool) (l : List (List UInt8)) : List S25 × Int :=
  if (headGo rep (hParts l) []).1 = 0 then (if (headGo rep (hParts l) []).2.length > 64 then ([], 3) else ((headGo rep (hParts l) []).2, 0)) else ([], (headGo rep (hParts l) []).1)
def csp_Header.f (l0 : List ByteArray) (a1 : Bool) : Option (List S25 × Int) :=
  if (l0.map fun s => s.size + 1).sum ≤ 1099511627776 then some (headF a1 (l0.map fun s => s.data.toList)) else none
theorem csp_Header.calls (A0 : Option Addr) (c0 : Nat) (l0 : List ByteArray) (a1 : Bool) (r1 : List S25) (r2 : Int) (w : World) (hr0 : Kd.C Kd.string w A0 l0.length l0) (hc0 : l0.length ≤ c0) (h : csp_Header.f l0 a1 = some (r1, r2)) :
    Calls Tryz.prog 24 #[.slice A0 l0.length c0, .bool a1] w fun e w' => ∃ v0_ : Value, e = .returned (.tuple #[v0_, .int .i64 r2]) ∧ Kd.N k25 25 w' w.heap.size (fun k_ => w.heap.size ≤ k_) v0_ r1 ∧ Below w.heap.size w w' := by
  unfold csp_Header.f at h
  split at h
  · rename_i hs
    have e : (l0.map fun s => s.data.toList).map B = l0 := by
      rw [List.map_map]
      conv => rhs; rw [← List.map_id l0]
      exact List.map_congr_left (fun x _ => B_of x)
    obtain ⟨h1, h2, h3⟩ := hParts_count (l0.map fun s => s.data.toList)
    rw [e] at h1 h2 h3
    have hlen : (l0.map fun s => s.data.toList).length = l0.length := List.length_map _
    have := header_in A0 c0 (l0.map fun s => s.data.toList) a1 w r2 r1 (by omega) (by omega) (fun s hs => by have := h3 s hs; omega) (by rw [hlen, e]; exact hr0) (by
      have h := Option.some.inj h
      unfold headF at h
      split at h
      · rename_i h0
        rw [if_pos h0]
        split at h
        · rename_i h64; rw [if_pos h64]; cases h; rfl
        · rename_i h64; rw [if_neg h64]; cases h; rfl
      · rename_i h0; rw [if_neg h0]; cases h; rfl)
    rw [hlen] at this
    exact callsIn_wide.1 this
  · cases h
end Go.Proofs.YtnndgmbflkdhkaaGreatDoor.Q
