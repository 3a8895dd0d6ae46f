/- csp.Parse: what it answers at every text. -/
import Derived.Test.YtnndgmbflkdhkaaGreatDoorSSplit
import Derived.Test.YtnndgmbflkdhkaaGreatDoorSFields
import Derived.Test.YtnndgmbflkdhkaaGreatDoorSFunc
import Derived.Test.YtnndgmbflkdhkaaGreatDoorSB7
import Derived.Deep.RegionHeld
set_option linter.unusedSimpArgs false
set_option linter.unusedVariables false
namespace Go.Proofs.YtnndgmbflkdhkaaGreatDoor.Q
open Go.RowKit Go.Proofs.YtnndgmbflkdhkaaGreatDoorW.PrintWords Go.Proofs.YtnndgmbflkdhkaaGreatDoorW.PrintLast Go.Proofs.YtnndgmbflkdhkaaGreatDoorW.PrintMore Go.Proofs.YtnndgmbflkdhkaaGreatDoor.P1 Go.Proofs.YtnndgmbflkdhkaaGreatDoor.R
attribute [local go_sem] Oper.semAt_some
/-- the directives, part by part -/
def parseGo : List (List UInt8) → List S35 → Option (List S35)
  | [], acc => some acc
  | p :: ps, acc => match wordsL p with
    | [] => parseGo ps acc
    | x :: vs => if acc.any (fun e => e.f0.toList == (B (low x)).toList) then parseGo ps acc
      else if vs.length > 64 ∨ acc.length ≥ 64 then none else parseGo ps (acc ++ [⟨B (low x), vs.map B⟩])
theorem parse_nil (x : List UInt8) (ds : List S35) (h : wordsL x = []) : parseGo [x] ds = some ds := by unfold parseGo; rw [h]; rfl
theorem parse_hit (x y : List UInt8) (vs : List (List UInt8)) (ds : List S35) (h : wordsL x = y :: vs) (ha : ds.any (fun e => e.f0.toList == (B (low y)).toList) = true) : parseGo [x] ds = some ds := by unfold parseGo; rw [h]; simp only [ha, if_true]; rfl
theorem parse_many (x y : List UInt8) (vs : List (List UInt8)) (ds : List S35) (h : wordsL x = y :: vs) (ha : ds.any (fun e => e.f0.toList == (B (low y)).toList) = false) (hm : vs.length > 64 ∨ ds.length ≥ 64) : parseGo [x] ds = none := by unfold parseGo; rw [h]; simp only [ha, Bool.false_eq_true, if_false, if_pos hm]
theorem parse_more (x y : List UInt8) (vs : List (List UInt8)) (ds : List S35) (h : wordsL x = y :: vs) (ha : ds.any (fun e => e.f0.toList == (B (low y)).toList) = false) (hm : ¬ (vs.length > 64 ∨ ds.length ≥ 64)) : parseGo [x] ds = some (ds ++ [⟨B (low y), vs.map B⟩]) := by unfold parseGo; rw [h]; simp only [ha, Bool.false_eq_true, if_false, if_neg hm]; rfl
theorem parseGo_append : ∀ (a b : List (List UInt8)) (acc : List S35), parseGo (a ++ b) acc = (parseGo a acc).bind (parseGo b)
  | [], b, acc => rfl
  | p :: ps, b, acc => by
    rw [List.cons_append]
    unfold parseGo
    cases wordsL p with
    | nil => exact parseGo_append ps b acc
    | cons x vs =>
      simp only
      split
      · exact parseGo_append ps b acc
      · split
        · rfl
        · exact parseGo_append ps b _
/-- a directive as it lies: its values in a row of words that lies at or behind n1 -/
def DirAt (n1 : Nat) (W : World) (x : S35) (cs : List Value) : Prop :=
  ∃ (g o c : Nat) (cells : Array Value), cs = [.string x.f0, .slice (some ⟨g, o, none⟩) x.f1.length c] ∧ x.f1.length ≤ c ∧ x.f1.length ≤ 1048576 ∧ n1 ≤ g ∧ W.heap[g]? = some (.cells cells 9 (0, 0)) ∧ ∀ (j : Nat) y, x.f1[j]? = some y → cells[o + j]? = some (.string y)
theorem strC_of_heap {W : World} {g o : Nat} {cells : Array Value} {e : TypeId} {fr : Nat × Nat} {xs : List ByteArray} (hl : xs.length ≤ 1048576) (h : W.heap[g]? = some (.cells cells e fr)) (hx : ∀ (j : Nat) y, xs[j]? = some y → cells[o + j]? = some (.string y)) :
    Kd.string.C W (some ⟨g, o, none⟩) xs.length xs := by
  refine ⟨rfl, by omega, fun _ => ⟨_, rfl, fun j p hj => ⟨[.string p], rfl, rfl, fun i u hi => ?_⟩⟩⟩
  have hi0 : i = 0 := by
    rcases i with _ | i
    · rfl
    · simp at hi
  subst hi0
  obtain rfl : Value.string p = u := by simpa using hi
  have h2 := hx j p hj
  show W.cell? ((⟨g, o, none⟩ : Addr).add (j * 1 + 0)) = _
  rw [Nat.mul_one, Nat.add_zero]
  unfold Addr.add
  split
  · rename_i hj0
    subst hj0
    rw [Lib.cell_of_heap h]
    exact h2
  · rw [Lib.cell_of_heap h]
    exact h2
theorem DirAt.fk {n1 : Nat} {W : World} {x : S35} {cs : List Value} {ok : Nat → Prop} (h : DirAt n1 W x cs) (hok : ∀ g cells, n1 ≤ g → W.heap[g]? = some (.cells cells 9 (0, 0)) → ok g) : Kd.FK k35 W ok x cs := by
  obtain ⟨g, o, c, cells, rfl, hc, hl, hn, hg, hx⟩ := h
  intro W' hW'
  refine k35_mk W' x hc (strC_of_heap (e := 9) (fr := (0, 0)) hl ?_ hx)
  have hlt : g < W.heap.size := (Array.getElem?_eq_some_iff.1 hg).1
  rw [hW' g (hok g cells hn hg) hlt]
  exact hg
theorem DirAt.len {n1 : Nat} {W : World} {x : S35} {cs : List Value} (h : DirAt n1 W x cs) : cs.length = 2 ∧ ∀ u ∈ cs, u.oneCell' = true := by
  obtain ⟨g, o, c, cells, rfl, _⟩ := h
  refine ⟨rfl, ?_⟩
  intro u hu
  simp at hu
  rcases hu with rfl | rfl <;> rfl
theorem DirAt.keep {n1 : Nat} {W C : World} {x : S35} {cs : List Value} (h : DirAt n1 W x cs) (hk : ∀ g cells, n1 ≤ g → W.heap[g]? = some (.cells cells 9 (0, 0)) → C.heap[g]? = W.heap[g]?) : DirAt n1 C x cs := by
  obtain ⟨g, o, c, cells, h1, h2, h3, h4, h5, h6⟩ := h
  exact ⟨g, o, c, cells, h1, h2, h3, h4, (hk g cells h4 h5).trans h5, h6⟩
theorem DirAt.lower {n1 n2 : Nat} {W : World} {x : S35} {cs : List Value} (h : DirAt n1 W x cs) (hn : n2 ≤ n1) : DirAt n2 W x cs := by
  obtain ⟨g, o, c, cells, h1, h2, h3, h4, h5, h6⟩ := h
  exact ⟨g, o, c, cells, h1, h2, h3, by omega, h5, h6⟩
theorem owns_lower {w : World} {base base' : Nat} {e : TypeId} {size : Nat} {v : Value} {n : Nat} {xs : List Value} (h : w.ownsRow base e size v n xs) (hb : base' ≤ base) : w.ownsRow base' e size v n xs := by
  refine ⟨h.1, ?_⟩
  rcases h.2 with h | ⟨g, cap, cur, h1, h2, h3⟩
  · exact .inl h
  · exact .inr ⟨g, cap, cur, h1, Nat.le_trans hb h2, h3⟩
theorem dirs_N {n1 : Nat} {W : World} {v : Value} {ds : List S35} {inner : List Value} (ho : W.ownsRow n1 35 2 v ds.length inner) (hr : Reps (DirAt n1 W) 2 ds inner) : Kd.N k35 35 W n1 (fun k => n1 ≤ k) v ds := by
  have hb := Kd.R_base (d := Kd.raw 2) (e := 35) (w := W) (base := n1) (ok := fun _ => True) (v := v) (xs := Kd.chunks 2 ds.length inner) ⟨fun _ _ => trivial, inner, by rw [Kd.chunks_length]; exact ho, Kd.reps_raw hr (fun x c hp => hp.len)⟩
  have ht := Kd.R_typed (d := Kd.raw 2) (e := 35) (w := W) (base := n1) (ok := fun _ => True) (v := v) (xs := Kd.chunks 2 ds.length inner) ⟨fun _ _ => trivial, inner, by rw [Kd.chunks_length]; exact ho, Kd.reps_raw hr (fun x c hp => hp.len)⟩
  refine ⟨hb, Kd.chunks 2 ds.length inner, Kd.chunks_length _ _ _, ⟨fun k hk => hk.symm, inner, by rw [Kd.chunks_length]; exact ho, Kd.reps_raw hr (fun x c hp => hp.len)⟩, fun j x c hx hc => ?_⟩
  rw [Kd.chunks_get hc]
  refine (hr.2 j x hx).fk (fun g cells hn hg => ⟨hn, fun e => ?_⟩)
  obtain ⟨cells', h'⟩ := ht g e.symm
  rw [hg] at h'
  cases h'
theorem parts_len (c : UInt8) : ∀ (l : List UInt8) (x : List UInt8), x ∈ parts c l → x.length ≤ l.length
  | [], x, h => by simp [parts] at h; simp [h]
  | b :: r, x, h => by
    unfold parts at h
    split at h
    · rcases List.mem_cons.1 h with rfl | h
      · simp
      · have := parts_len c r x h; simp; omega
    · split at h
      · rename_i hp
        exact absurd hp (parts_ne c r)
      · rename_i p ps hp
        rcases List.mem_cons.1 h with rfl | h
        · have := parts_len c r p (by rw [hp]; simp); simp; omega
        · have := parts_len c r x (by rw [hp]; simp [h]); simp; omega
theorem results_cs {P : Program} {fn : Func} {p p' : Tmp} {ty ty' : TypeId} (h : fn.results = #[.cell p ty, .cell p' ty']) (tmps : Array Value) (w : World) (g g' : Nat) (t t' : TypeId) (cs : Array Value) (x : Value) (fr fr' : Nat × Nat) (d : TypeDesc) (kd : IntKind)
    (hp : tmps.getD p undef = .pointer (some ⟨g, 0, none⟩)) (hg : w.heap[g]? = some (.cells cs t fr))
    (hu : P.underlying ty = some d) (hd : (match d with | .struct _ | .array _ _ => true | _ => false) = true) (hi : (P.info? ty).map (·.size) = some cs.size)
    (hp' : tmps.getD p' undef = .pointer (some ⟨g', 0, none⟩)) (hg' : w.heap[g']? = some (.cells #[x] t' fr'))
    (hu' : P.underlying ty' = some (.int kd)) :
    (results fn tmps).run P w = .ok (.tuple #[.agg cs, x]) w := by
  have h1 : tmps[p]?.getD undef = .pointer (some ⟨g, 0, none⟩) := by simpa using hp
  have h2 : tmps[p']?.getD undef = .pointer (some ⟨g', 0, none⟩) := by simpa using hp'
  have hc : w.cell? ⟨g', 0, none⟩ = some x := by rw [Lib.cell_of_heap hg']; rfl
  have hA : ∀ w, (isAgg ty').run P w = .ok false w := run_isAgg_plain hu' rfl
  have hL : (loadVar ty' ⟨g', 0, none⟩).run P w = .ok x w := by
    unfold loadVar
    simp [hA, hc, go_sem]
  simp [results, h, h1, h2, asAddr, run_loadVar_row w g t ty cs fr d hg hu hd hi, hL]
theorem cell_two_new (w : World) (x y : Value) (t : TypeId) : ∀ j u, [x, y][j]? = some u → (w.alloc (.cells #[x, y] t)).cell? ((⟨w.heap.size, 0, none⟩ : Addr).add j) = some u := by
  intro j u hj
  match j, hj with
  | 0, hj =>
    simp at hj
    subst hj
    simp [Addr.add]
  | 1, hj =>
    simp at hj
    subst hj
    simp [Addr.add]
theorem heap_newQ (w : World) (o : Obj) : (w.alloc o).heap[w.heap.size]? = some o := by unfold World.alloc; exact Array.getElem?_push_size
theorem words_row {W : World} {base : Nat} {ok : Nat → Prop} {v : Value} {ws : List ByteArray} (h : Kd.R Kd.string 9 W base ok v ws) :
    (ws = [] ∧ ∃ A c, v = .slice A 0 c) ∨ ∃ (g cap : Nat) (cur : Array Value), v = .slice (some ⟨g, 0, none⟩) ws.length cap ∧ base ≤ g ∧ W.heap[g]? = some (.cells cur 9 (0, 0)) ∧ ws.length ≤ cap ∧ cap ≤ maxLen ∧ ∀ (j : Nat) y, ws[j]? = some y → cur[j]? = some (.string y) := by
  obtain ⟨_, inner, ⟨hl, ho⟩, hr⟩ := h
  rcases ho with ⟨rfl, h0⟩ | ⟨g, cap, cur, rfl, h1, h2, h3, h4, h5, h6⟩
  · exact .inl ⟨List.length_eq_zero_iff.1 h0, _, _, rfl⟩
  · refine .inr ⟨g, cap, cur, rfl, h1, h2, h3, h4, fun j y hj => ?_⟩
    have h7 := hr.2 j y hj
    have h8 : (inner.drop (j * 1)).take 1 = [.string y] := h7
    have h9 : inner[j]? = some (.string y) := by
      have := congrArg (fun l => l[0]?) h8
      simpa [List.getElem?_take, List.getElem?_drop] using this
    rw [← h6, List.getElem?_take] at h9
    split at h9
    · simpa using h9
    · cases h9
/-- what stands between two rounds -/
def StP (rep : Bool) (w : World) (ds : List S35) (W : World) : Prop :=
  ∃ (v : Value) (inner : List Value), W.heap[w.heap.size + 2]? = some (.cells #[v, .bool rep] 25 (0, 0)) ∧ W.ownsRow (w.heap.size + 6) 35 2 v ds.length inner ∧ Reps (DirAt (w.heap.size + 6) W) 2 ds inner ∧ ds.length ≤ 64 ∧
    W.heap[w.heap.size]? = some (.cells #[.slice none 0 0, .bool false] 25 (0, 0)) ∧ W.heap[w.heap.size + 1]? = some (.cells #[.int .i64 0] 26 (0, 0)) ∧ Below w.heap.size w W ∧ w.heap.size + 6 ≤ W.heap.size
theorem StP.grown {rep : Bool} {w A C : World} {ds : List S35} {row : Option Nat} (h : StP rep w ds A) (hg : A.grownBy C row)
    (hr : ∀ r, row = some r → r = w.heap.size + 3 ∨ (w.heap.size + 6 ≤ r ∧ ∃ o : Obj, A.heap[r]? = some o ∧ o.isCells = false)) : StP rep w ds C := by
  obtain ⟨v, inner, h1, h2, h3, h4, h5, h6, h7, h8⟩ := h
  have keep : ∀ (k : Nat) (c : Array Value) (e : TypeId) (f : Nat × Nat), k ≠ w.heap.size + 3 → A.heap[k]? = some (.cells c e f) → C.heap[k]? = some (.cells c e f) := fun k c e f hk ho => by
    refine (hg.block k (Array.getElem?_eq_some_iff.1 ho).1 (fun e' => ?_)).trans ho
    rcases hr k e'.symm with h | ⟨_, o, ho', hc⟩
    · exact hk h
    · rw [ho] at ho'; cases ho'; cases hc
  refine ⟨v, inner, keep _ _ _ _ (by omega) h1, h2.kept hg ?_, ⟨h3.1, fun j p hj => (h3.2 j p hj).keep (fun g cells hn hgc => (keep g _ _ _ (by omega) hgc).trans hgc.symm)⟩, h4, keep _ _ _ _ (by omega) h5, keep _ _ _ _ (by omega) h6, ?_, Nat.le_trans h8 hg.size⟩
  · rcases h2.2 with ⟨rfl, _⟩ | ⟨g, cap, cur, rfl, hb, hgg, _⟩
    · exact .inl rfl
    · refine .inr (fun e' => ?_)
      rcases hr g e'.symm with h | ⟨_, o, ho', hc⟩
      · omega
      · rw [hgg] at ho'; cases ho'; cases hc
  · exact h7.grown hg (by have := h7.size; omega) (fun k e' => by
      rcases hr k e' with e1 | ⟨hle, _⟩ <;> omega)
theorem StP.below {rep : Bool} {w A C : World} {ds : List S35} (h : StP rep w ds A) (hb : Below A.heap.size A C) : StP rep w ds C :=
  h.grown (grown_of_below hb none) (fun r e => by cases e)
/-- what a round that leaves, leaves -/
def OutP (s : List UInt8) (w W : World) : Prop :=
  W.heap[w.heap.size]? = some (.cells #[.slice none 0 0, .bool false] 25 (0, 0)) ∧ W.heap[w.heap.size + 1]? = some (.cells #[.int .i64 3] 26 (0, 0)) ∧ Below w.heap.size w W ∧ w.heap.size + 6 ≤ W.heap.size ∧ parseGo (parts 59 s) [] = none
set_option maxRecDepth 100000 in
set_option maxHeartbeats 4000000 in
theorem parse_in (s : List UInt8) (rep : Bool) (hs : s.length ≤ 4096) (w : World) :
    CallsIn Fence.wide 5 Tryz.prog 11 #[.string (B s), .bool rep] w fun e w' => ((∃ ds v, parseGo (parts 59 s) [] = some ds ∧ e = .returned (.tuple #[.agg #[v, .bool rep], .int .i64 0]) ∧ ∃ inner, w'.ownsRow w.heap.size 35 2 v ds.length inner ∧ Reps (DirAt w.heap.size w') 2 ds inner) ∨
      (parseGo (parts 59 s) [] = none ∧ e = .returned (.tuple #[.agg #[.slice none 0 0, .bool false], .int .i64 3]))) ∧ Below w.heap.size w w' := by
  have hsz : (B s).size = s.length := B_size s
  have hlt0 : ¬ ((B s).size : Int) > 4096 := by rw [hsz]; omega
  refine callsIn_of_wp_marks Tryz.func11 rfl trivial ?_ rfl
  simp only [Tryz.ntmps11, List.size_toArray, List.length_cons, List.length_nil, Nat.reduceAdd, Nat.reduceSub, Array.replicate_succ, Array.replicate_zero, List.push_toArray, List.append_toArray, List.nil_append, List.cons_append]
  gi_wp2_with fail
  refine ⟨trivial, ?_⟩
  refine (callsIn_wide.2 (splitSeq_calls _ _ _)).mono ?_
  rintro e W0 ⟨rfl, hb0, hsz0, hB0, hB1, hB2⟩
  have e3 : (((w.alloc (.cells #[.slice none 0 0, .bool false] 25)).alloc (.cells #[.int .i64 0] 26)).alloc (.cells #[.slice none 0 0, .bool rep] 25)).heap.size = w.heap.size + 3 := by simp
  rw [e3] at hb0 hsz0 hB0 hB1 hB2 ⊢
  have hR4 : W0.heap[w.heap.size]? = some (.cells #[.slice none 0 0, .bool false] 25 (0, 0)) := by
    rw [hb0.block _ (by omega), (Below.heap_alloc _ _ _ (by simp only [World.size_alloc]; omega)), (Below.heap_alloc _ _ _ (by simp only [World.size_alloc]; omega))]; exact World.alloc_heap_new w _
  have hR5 : W0.heap[w.heap.size + 1]? = some (.cells #[.int .i64 0] 26 (0, 0)) := by
    rw [hb0.block _ (by omega), (Below.heap_alloc _ _ _ (by simp))]
    have := World.alloc_heap_new (w.alloc (.cells #[.slice none 0 0, .bool false] 25)) (.cells #[.int .i64 0] 26)
    rwa [World.size_alloc] at this
  have hR6 : W0.heap[w.heap.size + 2]? = some (.cells #[.slice none 0 0, .bool rep] 25 (0, 0)) := by
    rw [hb0.block _ (by omega)]
    have := World.alloc_heap_new ((w.alloc (.cells #[.slice none 0 0, .bool false] 25)).alloc (.cells #[.int .i64 0] 26)) (.cells #[.slice none 0 0, .bool rep] 25)
    rwa [World.size_alloc, World.size_alloc] at this
  have hBW : Below w.heap.size w W0 := ((((Below.refl _ w).alloc (Nat.le_refl _) _).alloc (by simp) _).alloc (by simp only [World.size_alloc]; omega) _).trans (hb0.mono (by omega))
  have hst : StP rep w [] W0 := ⟨.slice none 0 0, [], hR6, ⟨rfl, .inl ⟨rfl, rfl⟩⟩, ⟨rfl, fun j p hj => by simp at hj⟩, by simp, hR4, hR5, hBW, by omega⟩
  have hsz1 : W0.heap.size = w.heap.size + 6 := by omega
  clear e3 hb0 hR4 hR5 hR6 hBW hsz0
  gi_wp2_with fail
  have hroom : w.heap.size + 3 < W0.heap.size := by omega
  refine range_stop (n := 5) (w := W0) (F := Fence.wide) (T := 9) (ps := #[18]) (xs := parts 59 s) (encs := fun x : List UInt8 => #[Value.string (B x)]) (Kp := KpS (w.heap.size + 3)) rfl (by omega) (gf := 82) (lb := #[.pointer (some ⟨w.heap.size + 3 + 1, 0, none⟩), .pointer (some ⟨w.heap.size + 3, 0, none⟩), .pointer (some ⟨w.heap.size + 3 + 2, 0, none⟩)]) rfl trivial (enters_of Tryz.func82 (by kernel_rfl) rfl) (w.heap.size + 3) hroom ?seq ?kt ?kb (fun _ => rfl)
    (fun pre W => ∃ ds, parseGo pre [] = some ds ∧ StP rep w ds W) (OutP s w) ?stable ?outs ?start ?a1 ?assign ?body ?stop ?done
  case assign =>
    intro l x W K hK
    gi_wp2
    exact hK
  case seq =>
    intro l J Jx W hl hb hJ hY h0
    exact split_in (w.heap.size + 3) 59 s (by omega) l J Jx hJ hY W ((hb.block _ (by omega)).trans hB0) ((hb.block _ (by omega)).trans hB1) ((hb.block _ (by omega)).trans hB2) h0
  case kt => intro A C D h k; exact ⟨k.1.trans h.1, k.2.1.trans h.2.1, k.2.2.trans h.2.2⟩
  case kb =>
    intro W l o o' hl ho hc
    exact ⟨World.putObj_heap_other (by omega), World.putObj_heap_other (by omega), World.putObj_heap_other (by omega)⟩
  case start => exact ⟨[], rfl, hst⟩
  case stable =>
    rintro pre A C row ⟨ds, h1, h2⟩ hg hr
    exact ⟨ds, h1, h2.grown hg (fun r e => by
      rcases hr r e with ⟨e1, _⟩ | ⟨h3, h4⟩
      · exact .inl e1
      · exact .inr ⟨by omega, h4⟩)⟩
  case outs =>
    rintro A l o o' ⟨h1, h2, h3, h4, h5⟩ hl ho hc
    exact ⟨(World.putObj_heap_other (by omega)).trans h1, (World.putObj_heap_other (by omega)).trans h2, h3.grown (grownBy_putObj' A l o') (by have := (Array.getElem?_eq_some_iff.1 ho).1; omega) (fun k e => by cases e; omega), by simpa using h4, h5⟩
  case stop =>
    rintro D W hD ⟨h1, h2, h3, h4, h5⟩ hK
    gi_wp2
    refine ⟨by simp, .inl ⟨_, _, rfl, run_takeDeferred hK, ?_⟩⟩
    exact ⟨_, results_cs rfl _ _ w.heap.size (w.heap.size + 1) 25 26 #[.slice none 0 0, .bool false] (.int .i64 3) (0, 0) (0, 0) _ .i64 rfl ((World.putObj_heap_other (by omega)).trans h1) Tryz.underlying25 rfl (by kernel_rfl) rfl ((World.putObj_heap_other (by omega)).trans h2) Tryz.underlying26, .inr ⟨h5, rfl⟩, h3.trans (belowK_b (w := w) (by omega) W D _ _ (by omega) hK rfl rfl)⟩
  case done =>
    rintro D W hD ⟨ds, hp, hs1⟩ hK
    obtain ⟨v, inner, q1, q2, q3, q4, q5, q6, q7, q8⟩ := hs1
    obtain ⟨A, c, rfl⟩ := Kd.N_slice (dirs_N q2 q3)
    have c60 : W.cell? ⟨w.heap.size + 2, 0, none⟩ = some (.slice A ds.length c) := by rw [Lib.cell_of_heap q1]; rfl
    have c61 : W.cell? ⟨w.heap.size + 2, 1, none⟩ = some (.bool rep) := by rw [Lib.cell_of_heap q1]; rfl
    have c40 : W.cell? ⟨w.heap.size, 0, none⟩ = some (.slice none 0 0) := by rw [Lib.cell_of_heap q5]; rfl
    have c41 : W.cell? ⟨w.heap.size, 1, none⟩ = some (.bool false) := by rw [Lib.cell_of_heap q5]; rfl
    have c50 : W.cell? ⟨w.heap.size + 1, 0, none⟩ = some (.int .i64 0) := by rw [Lib.cell_of_heap q6]; rfl
    have z40 : W.frozen? ⟨w.heap.size, 0, none⟩ = false := by simp [World.frozen?, q5]
    have z41 : W.frozen? ⟨w.heap.size, 1, none⟩ = false := by simp [World.frozen?, q5]
    have z50 : W.frozen? ⟨w.heap.size + 1, 0, none⟩ = false := by simp [World.frozen?, q6]
    gi_wp2
    have hsw : ∀ (k : Nat), w.heap.size + 2 ≤ k → (((W.setCell ⟨w.heap.size, 0, none⟩ (.slice A ds.length c)).setCell ⟨w.heap.size, 1, none⟩ (.bool rep)).setCell ⟨w.heap.size + 1, 0, none⟩ (.int .i64 0)).heap[k]? = W.heap[k]? := fun k hk => by
      rw [Below.heap_setCell _ _ _ k (by show k ≠ w.heap.size + 1; omega), Below.heap_setCell _ _ _ k (by show k ≠ w.heap.size; omega), Below.heap_setCell _ _ _ k (by show k ≠ w.heap.size; omega)]
    have hr4 : (((W.setCell ⟨w.heap.size, 0, none⟩ (.slice A ds.length c)).setCell ⟨w.heap.size, 1, none⟩ (.bool rep)).setCell ⟨w.heap.size + 1, 0, none⟩ (.int .i64 0)).heap[w.heap.size]? = some (.cells #[.slice A ds.length c, .bool rep] 25 (0, 0)) := by
      rw [Below.heap_setCell _ _ _ _ (by show w.heap.size ≠ w.heap.size + 1; omega)]
      rw [setCell_blk (j := 1) _ (setCell_blk (j := 0) _ q5)]
      rfl
    have hr5 : (((W.setCell ⟨w.heap.size, 0, none⟩ (.slice A ds.length c)).setCell ⟨w.heap.size, 1, none⟩ (.bool rep)).setCell ⟨w.heap.size + 1, 0, none⟩ (.int .i64 0)).heap[w.heap.size + 1]? = some (.cells #[.int .i64 0] 26 (0, 0)) := by
      have q6' : ((W.setCell ⟨w.heap.size, 0, none⟩ (.slice A ds.length c)).setCell ⟨w.heap.size, 1, none⟩ (.bool rep)).heap[w.heap.size + 1]? = some (.cells #[.int .i64 0] 26 (0, 0)) := by
        rw [Below.heap_setCell _ _ _ _ (by show w.heap.size + 1 ≠ w.heap.size; omega), Below.heap_setCell _ _ _ _ (by show w.heap.size + 1 ≠ w.heap.size; omega)]
        exact q6
      rw [setCell_blk (j := 0) _ q6']
      rfl
    have hbl : Below w.heap.size w (((W.setCell ⟨w.heap.size, 0, none⟩ (.slice A ds.length c)).setCell ⟨w.heap.size, 1, none⟩ (.bool rep)).setCell ⟨w.heap.size + 1, 0, none⟩ (.int .i64 0)) := ((q7.setCell (p := ⟨w.heap.size, 0, none⟩) (Nat.le_refl _) _).setCell (p := ⟨w.heap.size, 1, none⟩) (Nat.le_refl _) _).setCell (p := ⟨w.heap.size + 1, 0, none⟩) (by show _ ≤ w.heap.size + 1; omega) _
    generalize (((W.setCell ⟨w.heap.size, 0, none⟩ (.slice A ds.length c)).setCell ⟨w.heap.size, 1, none⟩ (.bool rep)).setCell ⟨w.heap.size + 1, 0, none⟩ (.int .i64 0)) = W2 at hsw hr4 hr5 hbl ⊢
    have hK2 := (hsw D (by omega)).trans hK
    refine ⟨by simp, .inl ⟨_, _, rfl, run_takeDeferred hK2, ?_⟩⟩
    have hkp : ∀ (g : Nat) (cells : Array Value) (e : TypeId), w.heap.size + 6 ≤ g → W.heap[g]? = some (.cells cells e (0, 0)) → (W2.putObj D (.deferred none)).heap[g]? = W.heap[g]? := fun g cells e hg hc => by
      refine (World.putObj_heap_other (fun e' => ?_)).trans (hsw g (by omega))
      subst e'
      rw [hK] at hc
      cases hc
    refine ⟨_, results_cs rfl _ _ w.heap.size (w.heap.size + 1) 25 26 #[.slice A ds.length c, .bool rep] (.int .i64 0) (0, 0) (0, 0) _ .i64 rfl ((World.putObj_heap_other (by omega)).trans hr4) Tryz.underlying25 rfl (by kernel_rfl) rfl ((World.putObj_heap_other (by omega)).trans hr5) Tryz.underlying26, .inl ⟨ds, _, hp, rfl, ?_⟩, hbl.trans (belowK_b (w := w) (by omega) W2 D _ _ (by omega) hK2 rfl rfl)⟩
    refine ⟨inner, owns_lower (base := w.heap.size + 6) ⟨q2.1, ?_⟩ (by omega), q3.1, fun j p hj => ((q3.2 j p hj).keep (fun g cells hn hg => hkp g cells _ hn hg)).lower (by omega)⟩
    rcases q2.2 with h | ⟨g, cap, cur, h1, h2, h3, h4⟩
    · exact .inl h
    · exact .inr ⟨g, cap, cur, h1, h2, (hkp g _ _ h2 h3).trans h3, h4⟩
  case body =>
    rintro l pre x W ⟨ds, hp, hs1⟩ hpre
    have hx1 : x.length ≤ 4096 := by
      refine Nat.le_trans (parts_len 59 s x ?_) hs
      exact hpre.subset (by simp)
    have hpx : parseGo (pre ++ [x]) [] = parseGo [x] ds := by rw [parseGo_append, hp]; rfl
    have hwf : csp_words.f (B x) = some ((wordsL x).map B) := by unfold csp_words.f; rw [if_pos (by rw [B_size]; omega), words_eq]
    have hwl := wordsL_len x
    gi_wp2_with fail
    refine ⟨trivial, ?_⟩
    refine (((callsIn_wide (n := 2)).2 (csp_words.calls (B x) _ W hwf)).inRound l).mono ?_
    rintro e W1 ⟨v1, rfl, hw1, hb1⟩
    have hs2 := hs1.below hb1
    have hWs : w.heap.size + 6 ≤ W.heap.size := by obtain ⟨_, _, _, _, _, _, _, _, _, h⟩ := hs1; exact h
    have hkf : KeepsFrom W0.heap.size W W1 := KeepsFrom.of_grownBy (grown_of_below hb1 none) (fun j e => by cases e)
    have hkp : KpS (w.heap.size + 3) W W1 := ⟨hb1.block _ (by omega), hb1.block _ (by omega), hb1.block _ (by omega)⟩
    have hr1 := words_row hw1
    have HB1 := Lib.hid hb1
    clear hs1 hw1 hwf hb1
    cases hc : wordsL x with
    | nil =>
      rw [hc] at hr1
      rw [parse_nil x ds hc] at hpx
      obtain ⟨A, c, rfl⟩ : ∃ A c, v1 = .slice A 0 c := by
        rcases hr1 with ⟨_, h⟩ | ⟨g, cap, cur, rfl, _⟩
        · exact h
        · exact ⟨_, _, rfl⟩
      gi_wp2
      exact ⟨hkf, hkp, ds, hpx, hs2⟩
    | cons y vs =>
      rw [hc] at hr1 hwl
      obtain ⟨g, cap, cur, rfl, hg1, hg2, hg3, hg4, hg5⟩ : ∃ (g cap : Nat) (cur : Array Value), v1 = .slice (some ⟨g, 0, none⟩) (vs.length + 1) cap ∧ W.heap.size ≤ g ∧ W1.heap[g]? = some (.cells cur 9 (0, 0)) ∧ vs.length + 1 ≤ cap ∧ cap ≤ maxLen ∧ ∀ (j : Nat) z, ((y :: vs).map B)[j]? = some z → cur[j]? = some (.string z) := by
        rcases hr1 with ⟨h, _⟩ | ⟨g, cap, cur, h1, h2, h3, h4, h5, h6⟩
        · simp at h
        · exact ⟨g, cap, cur, by simpa using h1, h2, h3, by simpa using h4, h5, h6⟩
      have HC := Lib.hid hc
      clear hr1 hc
      have hlen0 : ¬ ((vs.length + 1 : Nat) : Int) = 0 := by omega
      gi_wp2_with fail
      have hcell0 : W1.cell? ⟨g, 0, none⟩ = some (.string (B y)) := by rw [Lib.cell_of_heap hg2]; exact hg5 0 (B y) rfl
      have hglt : g < W1.heap.size := blk_lt0 hg2
      have mk : ∀ W', Below W1.heap.size W1 W' → W'.cell? ⟨g, 0, none⟩ = some (.string (B y)) ∧ Hid (Below W1.heap.size W1 W') := fun W' h => ⟨by rw [h.cell hglt]; exact hcell0, Lib.hid h⟩
      obtain ⟨o, hcut, ho1⟩ : ∃ o : Nat, (∀ W9 : World, (Instr.slice 33 (.slice (some ⟨g, 0, none⟩) (vs.length + 1) cap) (some (.int .i64 1)) none none).run Tryz.prog W9 = .ok (.slice (some ⟨g, o, none⟩) vs.length (cap - 1)) W9) ∧ (vs ≠ [] → o = 1) := by
        obtain ⟨i0, hi0, _, hsz0, _⟩ := info_parts info9
        have h := cut_from (P := Tryz.prog) 33 9 .i64 Tryz.underlying33 hi0 1 hsz0 (some ⟨g, 0, none⟩) (vs.length + 1) cap 1 (by omega) (by omega)
        by_cases hc1 : cap = 1
        · refine ⟨0, fun W9 => ?_, fun hv => ?_⟩
          · rw [h W9, if_pos (by rw [hc1]; rfl)]; rfl
          · have : 0 < vs.length := List.length_pos_iff.2 hv
            omega
        · refine ⟨1, fun W9 => ?_, fun _ => rfl⟩
          rw [h W9, if_neg (by intro e; exact hc1 (by simpa using e))]; rfl
      have hyl : y.length ≤ 4096 := Nat.le_trans (hwl.2 y (by simp)).2 hx1
      have hvl : vs.length ≤ 4096 := by have := hwl.1; simp at this; omega
      have HWL := Lib.hid hwl
      have HG2 := Lib.hid hg2
      have HG5 := Lib.hid hg5
      have HST := Lib.hid hs2
      clear hwl hg2 hg5 hs2 hcell0
      have hlw : ∀ W', Hid (Below W1.heap.size W1 W') → Calls Tryz.prog 33 #[.string (B y)] W' fun e W2 => e = .returned (.string (B (low y))) ∧ Hid (Below W'.heap.size W' W2) ∧ W2.cell? ⟨g, 0, none⟩ = some (.string (B y)) ∧ Hid (Below W1.heap.size W1 W2) := fun W' hW =>
        (pct_Lower.calls (B y) _ W' (lower_f y (by omega))).mono (by
          rintro e W2 ⟨rfl, h⟩
          exact ⟨rfl, Lib.hid h, mk W2 (hW.out.trans (h.mono hW.out.size))⟩)
      refine wpIn_round_any (by kernel_rfl) (by rintro ⟨_, _, h⟩; exact h) (by kernel_rfl) (fun W1d hd => ?_)
      refine wpAny_of_held (S := (fun W' => W'.cell? ⟨g, 0, none⟩ = some (.string (B y)) ∧ Hid (Below W1.heap.size W1 W'))) _ _ _ _ ?_
      have hBd : Below W1.heap.size W1 W1d := by rw [hd]; exact (Below.refl _ W1).drew
      clear hd
      have hHeld := mk W1d hBd
      clear hBd
      refine wpAnyH_take (i := 0) (oi := (⟨some 24, .move (.tmp 8), 33, "csp.go:36", #[], none⟩ : Oper)) (v := (.slice (some ⟨g, 0, none⟩) (vs.length + 1 : Nat) cap)) rfl (by kernel_rfl) (by kernel_rfl) (by kernel_rfl) (fun _ _ _ h => h) (Or.inl ⟨by rfl, ?_⟩) hHeld ?_
      · (intro W9 hSw; obtain ⟨z1, z2⟩ := hSw; clear hHeld; first | (go_simp; done) | (go_simp; with_reducible rfl))
      try simp only [Act.put, List.setIfInBounds_toArray, List.set_cons_zero, List.set_cons_succ]
      refine wpAnyH_take (i := 1) (oi := (⟨some 25, .indexAddr 33 (.tmp 24) (.const (.int .i64 0)), 0, "csp.go:36", #[⟨0, .data⟩], none⟩ : Oper)) (v := (.pointer (some ⟨g, 0, none⟩))) rfl (by kernel_rfl) (by kernel_rfl) (by kernel_rfl) (fun _ _ _ h => h) (Or.inl ⟨by rfl, ?_⟩) hHeld ?_
      · (intro W9 hSw; obtain ⟨z1, z2⟩ := hSw; clear hHeld; first | (go_simp; done) | (go_simp; with_reducible rfl))
      try simp only [Act.put, List.setIfInBounds_toArray, List.set_cons_zero, List.set_cons_succ]
      refine wpAnyH_take (i := 2) (oi := (⟨some 26, .load 9 (.tmp 25), 9, "csp.go:36", #[⟨1, .data⟩], none⟩ : Oper)) (v := (.string (B y))) rfl (by kernel_rfl) (by kernel_rfl) (by kernel_rfl) (fun _ _ _ h => h) (Or.inl ⟨by rfl, ?_⟩) hHeld ?_
      · (intro W9 hSw; obtain ⟨z1, z2⟩ := hSw; clear hHeld; first | (go_simp; done) | (go_simp; with_reducible rfl))
      try simp only [Act.put, List.setIfInBounds_toArray, List.set_cons_zero, List.set_cons_succ]
      refine wpAnyH_take (i := 4) (oi := (⟨some 28, .move (.tmp 8), 33, "csp.go:36", #[], none⟩ : Oper)) (v := (.slice (some ⟨g, 0, none⟩) (vs.length + 1 : Nat) cap)) rfl (by kernel_rfl) (by kernel_rfl) (by kernel_rfl) (fun _ _ _ h => h) (Or.inl ⟨by rfl, ?_⟩) hHeld ?_
      · (intro W9 hSw; obtain ⟨z1, z2⟩ := hSw; clear hHeld; first | (go_simp; done) | (go_simp; with_reducible rfl))
      try simp only [Act.put, List.setIfInBounds_toArray, List.set_cons_zero, List.set_cons_succ]
      refine wpAnyH_take (i := 5) (oi := (⟨some 29, .slice 33 (.tmp 28) (some (.const (.int .i64 1))) none none, 33, "csp.go:36", #[⟨4, .data⟩], none⟩ : Oper)) (v := (.slice (some ⟨g, o, none⟩) vs.length (cap - 1))) rfl (by kernel_rfl) (by kernel_rfl) (by kernel_rfl) (fun _ _ _ h => h) (Or.inl ⟨by rfl, ?_⟩) hHeld ?_
      · (intro W9 hSw; obtain ⟨z1, z2⟩ := hSw; clear hHeld; first | (go_simp; done) | (go_simp; with_reducible rfl))
      try simp only [Act.put, List.setIfInBounds_toArray, List.set_cons_zero, List.set_cons_succ]
      refine wpAnyH_ready (rs := [3, 7]) (by kernel_rfl) (by simp) (AllReadyH.cons rfl (fun K hK => ?_) (AllReadyH.cons rfl (fun K hK => ?_) AllReadyH.nil))
      · go_simp
        refine (hlw _ hHeld.2).mono ?_
        rintro e W2 ⟨rfl, hb2, q1, q2⟩
        refine hK.out _ _ ⟨q1, q2⟩ (fun hHeld => ?_)
        clear hK hb2
        try simp only [Act.put, List.setIfInBounds_toArray, List.set_cons_zero, List.set_cons_succ]
        refine wpAnyH_take (i := 6) (oi := (⟨some 30, .build 35 #[(0, .tmp 27), (1, .tmp 29)], 35, "csp.go:36", #[⟨3, .data⟩, ⟨5, .data⟩], none⟩ : Oper)) (v := (.agg #[.string (B (low y)), .slice (some ⟨g, o, none⟩) vs.length (cap - 1)])) rfl (by kernel_rfl) (by kernel_rfl) (by kernel_rfl) (fun _ _ _ h => h) (Or.inl ⟨by rfl, ?_⟩) hHeld ?_
        · (intro W9 hSw; obtain ⟨z1, z2⟩ := hSw; clear hHeld; first | (go_simp; done) | (go_simp; with_reducible rfl))
        try simp only [Act.put, List.setIfInBounds_toArray, List.set_cons_zero, List.set_cons_succ]
        refine wpAnyH_ready (rs := [7]) (by kernel_rfl) (by simp) (AllReadyH.cons rfl (fun K hK => ?_) AllReadyH.nil)
        go_simp
        obtain ⟨W3, hW3⟩ : ∃ W3, W3 = W2.alloc (.cells #[.string ⟨#[]⟩, .slice none 0 0] 35) := ⟨_, rfl⟩
        rw [← hW3]
        have hD : W3.heap[W2.heap.size]? = some (.cells #[.string ⟨#[]⟩, .slice none 0 0] 35 (0, 0)) := by rw [hW3]; exact heap_newQ _ _
        have hB3 : Below W1.heap.size W1 W3 := by rw [hW3]; exact hHeld.2.out.alloc hHeld.2.out.size _
        have hdB : W1.heap.size ≤ W2.heap.size := hHeld.2.out.size
        clear hW3
        generalize W2.heap.size = dB at *
        refine hK.out _ _ (mk W3 hB3) (fun hHeld => ?_)
        clear hK q1 q2
        try simp only [Act.put, List.setIfInBounds_toArray, List.set_cons_zero, List.set_cons_succ]
        have d0 : W3.cell? ⟨dB, 0, none⟩ = some (.string ⟨#[]⟩) := by rw [Lib.cell_of_heap hD]; rfl
        have d1 : W3.cell? ⟨dB, 1, none⟩ = some (.slice none 0 0) := by rw [Lib.cell_of_heap hD]; rfl
        have f0 : W3.frozen? ⟨dB, 0, none⟩ = false := by simp [World.frozen?, hD]
        have f1 : W3.frozen? ⟨dB, 1, none⟩ = false := by simp [World.frozen?, hD]
        have HDB := Lib.hid hdB
        clear hdB
        refine wpAnyH_ready (rs := [8]) (by kernel_rfl) (by simp) (AllReadyH.cons rfl (fun K hK => ?_) AllReadyH.nil)
        go_simp
        have D5 : ((W3.setCell ⟨dB, 0, none⟩ (.string (B (low y)))).setCell ⟨dB, 1, none⟩ (.slice (some ⟨g, o, none⟩) vs.length (cap - 1))).heap[dB]? = some (.cells #[.string (B (low y)), .slice (some ⟨g, o, none⟩) vs.length (cap - 1)] 35 (0, 0)) := by
          rw [setCell_blk (j := 1) _ (setCell_blk (j := 0) _ hD)]; rfl
        have B5 : Below W1.heap.size W1 ((W3.setCell ⟨dB, 0, none⟩ (.string (B (low y)))).setCell ⟨dB, 1, none⟩ (.slice (some ⟨g, o, none⟩) vs.length (cap - 1))) := (hB3.setCell (p := ⟨dB, 0, none⟩) HDB.out _).setCell (p := ⟨dB, 1, none⟩) HDB.out _
        generalize ((W3.setCell ⟨dB, 0, none⟩ (.string (B (low y)))).setCell ⟨dB, 1, none⟩ (.slice (some ⟨g, o, none⟩) vs.length (cap - 1))) = W5 at D5 B5 ⊢
        refine hK.out _ _ (mk W5 B5) (fun hHeld => ?_)
        clear hK hHeld d0 d1 f0 f1 hD hB3
        try simp only [Act.put, List.setIfInBounds_toArray, List.set_cons_zero, List.set_cons_succ]
        refine wpAnyH_done (by kernel_rfl) ?_ _
        gi_wp2_with fail
        have hs5 := HST.out.below B5
        have hkf5 : KeepsFrom W0.heap.size W W5 := hkf.trans (KeepsFrom.of_grownBy (grown_of_below B5 none) (fun j e => by cases e))
        have hW1s : W.heap.size ≤ W1.heap.size := HB1.out.size
        have hkp5 : KpS (w.heap.size + 3) W W5 := ⟨(B5.block _ (by omega)).trans hkp.1, (B5.block _ (by omega)).trans hkp.2.1, (B5.block _ (by omega)).trans hkp.2.2⟩
        have HG5w : W5.heap[g]? = some (.cells cur 9 (0, 0)) := blk_keep HG2.out B5
        have HDW := Lib.hid (Nat.le_trans hW1s HDB.out)
        clear hlw mk HST HG2 hkf hkp B5 HDB
        obtain ⟨v5, inner, q1, q2, q3, q4, q5, q6, q7, q8⟩ := hs5
        have hN := dirs_N q2 q3
        obtain ⟨A, c, rfl⟩ := Kd.N_slice hN
        have hC5 := (Kd.N_reads' hN).2.2
        have hAc := (Kd.N_reads' hN).2.1
        clear hN
        have hdlt : dB < W5.heap.size := blk_lt0 D5
        have mk5 : ∀ W', Below W5.heap.size W5 W' → W'.cell? ⟨w.heap.size + 2, 0, none⟩ = some (.slice A ds.length c) ∧ W'.cell? ⟨dB, 0, none⟩ = some (.string (B (low y))) ∧ Hid (Below W5.heap.size W5 W') := fun W' h => ⟨by rw [Lib.cell_of_heap (blk_keep q1 h)]; rfl, by rw [Lib.cell_of_heap (blk_keep D5 h)]; rfl, Lib.hid h⟩
        have hnm : ∀ W', Hid (Below W5.heap.size W5 W') → Calls Tryz.prog 35 #[.string (B (low y))] W' fun e W6 => ∃ b, e = .returned (.func (.func 57) #[] #[.pointer (some ⟨b, 0, none⟩)]) ∧ Hid (W6.cell? ⟨b, 0, none⟩ = some (.string (B (low y)))) ∧ W6.cell? ⟨w.heap.size + 2, 0, none⟩ = some (.slice A ds.length c) ∧ W6.cell? ⟨dB, 0, none⟩ = some (.string (B (low y))) ∧ Hid (Below W5.heap.size W5 W6) := fun W' hW =>
          (named_calls (B (low y)) W').mono (by
            rintro e W6 ⟨rfl, rfl⟩
            exact ⟨_, rfl, Lib.hid (by rw [Lib.cell_of_heap (heap_newQ _ _)]; rfl), mk5 _ (hW.out.alloc hW.out.size _)⟩)
        have hhas : ∀ (W' : World) (b : Nat), Hid (Below W5.heap.size W5 W') → W'.cell? ⟨b, 0, none⟩ = some (.string (B (low y))) → Calls Tryz.prog 34 #[.slice A ds.length c, .func (.func 57) #[] #[.pointer (some ⟨b, 0, none⟩)]] W' fun e W6 => e = .returned (.bool (ds.any fun e => e.f0.toList == (B (low y)).toList)) ∧ W6.cell? ⟨w.heap.size + 2, 0, none⟩ = some (.slice A ds.length c) ∧ W6.cell? ⟨dB, 0, none⟩ = some (.string (B (low y))) ∧ Hid (Below W5.heap.size W5 W6) := fun W' b hW hb => by
          refine (dirHas_calls A c ds (fun z => z.toList == (B (low y)).toList) 57 #[.pointer (some ⟨b, 0, none⟩)] (enters_of Tryz.func57 (by kernel_rfl) rfl) W' (by omega) (Kd.C_below hC5 hW.out)
            (fun W2 z v h2 => named1_calls z (B (low y)) v b W2 (pw_cell_below h2 hb))).mono ?_
          rintro e W6 ⟨rfl, h⟩
          exact ⟨rfl, mk5 W6 (hW.out.trans (h.mono hW.out.size))⟩
        have HC5 := Lib.hid hC5
        have HQ3 := Lib.hid q3
        have HQ2 := Lib.hid q2
        have HQ1 := Lib.hid q1
        have HD5 := Lib.hid D5
        clear hC5 q3 q2 q1 D5
        refine wpIn_round_any (by kernel_rfl) (by rintro ⟨_, _, h⟩; exact h) (by kernel_rfl) (fun W5d hd => ?_)
        refine wpAny_of_held (S := (fun W' => W'.cell? ⟨w.heap.size + 2, 0, none⟩ = some (.slice A ds.length c) ∧ W'.cell? ⟨dB, 0, none⟩ = some (.string (B (low y))) ∧ Hid (Below W5.heap.size W5 W'))) _ _ _ _ ?_
        have hHeld := mk5 W5d (by rw [hd]; exact (Below.refl _ W5).drew)
        clear hd
        refine wpAnyH_take (i := 0) (oi := (⟨some 38, .fieldAddr 25 (.tmp 6) 0, 0, "csp.go:38", #[], none⟩ : Oper)) (v := (.pointer (some ⟨w.heap.size + 2, 0, none⟩))) rfl (by kernel_rfl) (by kernel_rfl) (by kernel_rfl) (fun _ _ _ h => h) (Or.inl ⟨by rfl, ?_⟩) hHeld ?_
        · (intro W9 hSw; obtain ⟨z1, z2, z3⟩ := hSw; clear hHeld; first | (go_simp; done) | (go_simp; with_reducible rfl))
        try simp only [Act.put, List.setIfInBounds_toArray, List.set_cons_zero, List.set_cons_succ]
        refine wpAnyH_take (i := 1) (oi := (⟨some 39, .load 23 (.tmp 38), 23, "csp.go:38", #[⟨0, .data⟩], none⟩ : Oper)) (v := (.slice A ds.length c)) rfl (by kernel_rfl) (by kernel_rfl) (by kernel_rfl) (fun _ _ _ h => h) (Or.inl ⟨by rfl, ?_⟩) hHeld ?_
        · (intro W9 hSw; obtain ⟨z1, z2, z3⟩ := hSw; clear hHeld; first | (go_simp; done) | (go_simp; with_reducible rfl))
        try simp only [Act.put, List.setIfInBounds_toArray, List.set_cons_zero, List.set_cons_succ]
        refine wpAnyH_take (i := 2) (oi := (⟨some 40, .fieldAddr 35 (.tmp 9) 0, 0, "csp.go:38", #[], none⟩ : Oper)) (v := (.pointer (some ⟨dB, 0, none⟩))) rfl (by kernel_rfl) (by kernel_rfl) (by kernel_rfl) (fun _ _ _ h => h) (Or.inl ⟨by rfl, ?_⟩) hHeld ?_
        · (intro W9 hSw; obtain ⟨z1, z2, z3⟩ := hSw; clear hHeld; first | (go_simp; done) | (go_simp; with_reducible rfl))
        try simp only [Act.put, List.setIfInBounds_toArray, List.set_cons_zero, List.set_cons_succ]
        refine wpAnyH_take (i := 3) (oi := (⟨some 41, .load 9 (.tmp 40), 9, "csp.go:38", #[⟨2, .data⟩], none⟩ : Oper)) (v := (.string (B (low y)))) rfl (by kernel_rfl) (by kernel_rfl) (by kernel_rfl) (fun _ _ _ h => h) (Or.inl ⟨by rfl, ?_⟩) hHeld ?_
        · (intro W9 hSw; obtain ⟨z1, z2, z3⟩ := hSw; clear hHeld; first | (go_simp; done) | (go_simp; with_reducible rfl))
        try simp only [Act.put, List.setIfInBounds_toArray, List.set_cons_zero, List.set_cons_succ]
        refine wpAnyH_ready (rs := [4]) (by kernel_rfl) (by simp) (AllReadyH.cons rfl (fun K hK => ?_) AllReadyH.nil)
        go_simp
        refine (hnm _ hHeld.2.2).mono ?_
        rintro e W6 ⟨b, rfl, hbc, hS6⟩
        refine hK.out _ _ hS6 (fun hHeld => ?_)
        clear hK hS6
        try simp only [Act.put, List.setIfInBounds_toArray, List.set_cons_zero, List.set_cons_succ]
        refine wpAnyH_ready (rs := [5]) (by kernel_rfl) (by simp) (AllReadyH.cons rfl (fun K hK => ?_) AllReadyH.nil)
        go_simp
        refine (hhas _ b hHeld.2.2 hbc.out).mono ?_
        rintro e W7 ⟨rfl, hS7⟩
        refine hK.out _ _ hS7 (fun hHeld => ?_)
        clear hK hbc hnm hhas
        try simp only [Act.put, List.setIfInBounds_toArray, List.set_cons_zero, List.set_cons_succ]
        refine wpAnyH_take (i := 6) (oi := (⟨some 37, .assign (.tmp 43), 4, "csp.go:38", #[⟨5, .data⟩, ⟨5, .chain⟩], none⟩ : Oper)) (v := (.bool (ds.any fun e => e.f0.toList == (B (low y)).toList))) rfl (by kernel_rfl) (by kernel_rfl) (by kernel_rfl) (fun _ _ _ h => h) (Or.inl ⟨by rfl, ?_⟩) hHeld ?_
        · (intro W9 hSw; obtain ⟨z1, z2, z3⟩ := hSw; clear hHeld; first | (go_simp; done) | (go_simp; with_reducible rfl))
        try simp only [Act.put, List.setIfInBounds_toArray, List.set_cons_zero, List.set_cons_succ]
        refine wpAnyH_done (by kernel_rfl) ?_ _
        obtain ⟨c7, d7, hb7⟩ := hHeld
        cases hany : (ds.any fun e => e.f0.toList == (B (low y)).toList) with
        | true =>
          gi_wp2
          exact ⟨hkf5.trans (KeepsFrom.of_grownBy (grown_of_below hb7.out none) (fun j e => by cases e)), ⟨(hb7.out.block _ (by omega)).trans hkp5.1, (hb7.out.block _ (by omega)).trans hkp5.2.1, (hb7.out.block _ (by omega)).trans hkp5.2.2⟩, ds, hpx.trans (parse_hit x y vs ds HC.out hany), StP.below ⟨_, inner, HQ1.out, HQ2.out, HQ3.out, q4, q5, q6, q7, q8⟩ hb7.out⟩
        | false =>
          have hP7 := blk_keep HQ1.out hb7.out
          have hD7 := blk_keep HD5.out hb7.out
          have h47 := blk_keep q5 hb7.out
          have h57 := blk_keep q6 hb7.out
          have hG7 := blk_keep HG5w hb7.out
          have hN7 := Nat.le_trans q8 hb7.out.size
          have hbw7 := q7.trans (hb7.out.mono q7.size)
          have own7 := HQ2.out.kept (w' := W7) (row := (Value.slice none 0 0).ownBlock) (grown_of_below hb7.out _) (by cases A with | none => exact .inl rfl | some a => exact .inr (fun e => by cases e))
          have reps7 : Reps (DirAt (w.heap.size + 6) W7) 2 ds inner := ⟨HQ3.out.1, fun j p hj => (HQ3.out.2 j p hj).keep (fun g' cells hn hgc => (blk_keep hgc hb7.out).trans hgc.symm)⟩
          have hkf7 := hkf5.trans (KeepsFrom.of_grownBy (B := W0.heap.size) (grown_of_below hb7.out none) (fun j e => by cases e))
          have hkp7 : KpS (w.heap.size + 3) W W7 := ⟨(hb7.out.block _ (by omega)).trans hkp5.1, (hb7.out.block _ (by omega)).trans hkp5.2.1, (hb7.out.block _ (by omega)).trans hkp5.2.2⟩
          have c71 : W7.cell? ⟨w.heap.size + 2, 1, none⟩ = some (.bool rep) := by rw [Lib.cell_of_heap hP7]; rfl
          have e7 : W7.cell? ⟨dB, 1, none⟩ = some (.slice (some ⟨g, o, none⟩) vs.length (cap - 1)) := by rw [Lib.cell_of_heap hD7]; rfl
          have a40 : W7.cell? ⟨w.heap.size, 0, none⟩ = some (.slice none 0 0) := by rw [Lib.cell_of_heap h47]; rfl
          have a41 : W7.cell? ⟨w.heap.size, 1, none⟩ = some (.bool false) := by rw [Lib.cell_of_heap h47]; rfl
          have a50 : W7.cell? ⟨w.heap.size + 1, 0, none⟩ = some (.int .i64 0) := by rw [Lib.cell_of_heap h57]; rfl
          have y40 : W7.frozen? ⟨w.heap.size, 0, none⟩ = false := by simp [World.frozen?, h47]
          have y41 : W7.frozen? ⟨w.heap.size, 1, none⟩ = false := by simp [World.frozen?, h47]
          have y50 : W7.frozen? ⟨w.heap.size + 1, 0, none⟩ = false := by simp [World.frozen?, h57]
          have hout : parseGo [x] ds = none → (OutP s w (((W7.setCell ⟨w.heap.size, 0, none⟩ (.slice none 0 0)).setCell ⟨w.heap.size, 1, none⟩ (.bool false)).setCell ⟨w.heap.size + 1, 0, none⟩ (.int .i64 3)) ∧ KeepsFrom W0.heap.size W (((W7.setCell ⟨w.heap.size, 0, none⟩ (.slice none 0 0)).setCell ⟨w.heap.size, 1, none⟩ (.bool false)).setCell ⟨w.heap.size + 1, 0, none⟩ (.int .i64 3))) := fun hnone => by
            obtain ⟨tl, htl⟩ := hpre
            refine ⟨⟨?_, ?_, ((hbw7.setCell (p := ⟨w.heap.size, 0, none⟩) (Nat.le_refl _) _).setCell (p := ⟨w.heap.size, 1, none⟩) (Nat.le_refl _) _).setCell (p := ⟨w.heap.size + 1, 0, none⟩) (by show _ ≤ w.heap.size + 1; omega) _, by simpa using hN7, by rw [← htl, parseGo_append, hpx, hnone]; rfl⟩, hkf7.trans ⟨by simp, fun k o' hk ho hc => ?_⟩⟩
            · rw [Below.heap_setCell _ _ _ _ (by show w.heap.size ≠ w.heap.size + 1; omega), setCell_blk (j := 1) _ (setCell_blk (j := 0) _ h47)]; rfl
            · have h57' : ((W7.setCell ⟨w.heap.size, 0, none⟩ (.slice none 0 0)).setCell ⟨w.heap.size, 1, none⟩ (.bool false)).heap[w.heap.size + 1]? = some (.cells #[.int .i64 0] 26 (0, 0)) := by
                rw [Below.heap_setCell _ _ _ _ (by show w.heap.size + 1 ≠ w.heap.size; omega), Below.heap_setCell _ _ _ _ (by show w.heap.size + 1 ≠ w.heap.size; omega)]; exact h57
              rw [setCell_blk (j := 0) _ h57']; rfl
            · rw [Below.heap_setCell _ _ _ k (by show k ≠ w.heap.size + 1; omega), Below.heap_setCell _ _ _ k (by show k ≠ w.heap.size; omega), Below.heap_setCell _ _ _ k (by show k ≠ w.heap.size; omega)]; exact ho
          by_cases hv : vs.length > 64
          · have hvz : (vs.length : Int) > 64 := by omega
            have ho9 := hout (parse_many x y vs ds HC.out hany (.inl hv))
            gi_wp2
            exact ⟨by first | exact ho9.2 | exact hsz1 ▸ ho9.2, rfl, ho9.1⟩
          · have hvz : ¬ (vs.length : Int) > 64 := by omega
            by_cases hd : ds.length ≥ 64
            · have hdz : (ds.length : Int) ≥ 64 := by omega
              have ho9 := hout (parse_many x y vs ds HC.out hany (.inr hd))
              gi_wp2
              exact ⟨by first | exact ho9.2 | exact hsz1 ▸ ho9.2, rfl, ho9.1⟩
            · have hdz : ¬ (ds.length : Int) ≥ 64 := by omega
              clear hout a40 a41 a50 y40 y41 y50
              obtain ⟨i0, hi0, hz0, hz1, hz2⟩ := info_parts info35
              have hog : ∀ k, (Value.slice A ds.length c).ownBlock = some k → w.heap.size + 6 ≤ k ∧ ∃ cur, W7.heap[k]? = some (.cells cur 35 (0, 0)) := fun k hk => by
                rcases own7.2 with ⟨h9, _⟩ | ⟨g9, cap9, cur9, h9, h91, h92, _⟩
                · rw [h9] at hk; cases hk
                · rw [h9] at hk; cases hk; exact ⟨h91, _, h92⟩
              have hmk : ∀ w1, (W7.alloc (.cells #[.string (B (low y)), .slice (some ⟨g, o, none⟩) vs.length (cap - 1)] 35)).grownBy w1 (Value.slice A ds.length c).ownBlock → ∀ (k : Nat) (o9 : Obj), W7.heap[k]? = some o9 → (∀ cur, o9 ≠ Obj.cells cur 35 (0, 0)) → w1.heap[k]? = some o9 := fun w1 hg9 k o9 hk hno => by
                have hlt := blk_lt0 hk
                rw [hg9.block k (by simp; omega) (fun e => by obtain ⟨_, cur, h9⟩ := hog k e.symm; rw [hk] at h9; exact hno cur (Option.some.inj h9)), Below.heap_alloc _ _ _ hlt]
                exact hk
              gi_wp2_with (gi_at_builtin; refine wpListIn_append_own _ rfl _ _ 23 rfl (w.heap.size + 6) 35 i0 (.agg #[.string ⟨#[]⟩, .slice none 0 0]) 2 40 Tryz.underlying23 hi0 hz0 hz1 hz2 rfl (by decide) _ _ _ rfl (own7.alloc _) ⟨W7.heap.size, 0, none⟩ 1 1 [.string (B (low y)), .slice (some ⟨g, o, none⟩) vs.length (cap - 1)] rfl rfl (cell_two_new _ _ _ _) (by intro u hu; simp at hu; rcases hu with rfl | rfl <;> rfl) (by unfold maxLen; omega) (by omega) (by simp; omega) ?_; intro v' w1 hown' hgrow _; obtain ⟨g', cap', rfl⟩ := ownsRow_succ hown'; have hP8 := hmk w1 hgrow _ _ hP7 (fun cur e => by cases e); have c81 : w1.cell? ⟨w.heap.size + 2, 0, none⟩ = some (.slice A ds.length c) := (by rw [Lib.cell_of_heap hP8]; rfl); have f81 : w1.frozen? ⟨w.heap.size + 2, 0, none⟩ = false := (by simp [World.frozen?, hP8]))
              have HPM := Lib.hid (parse_more x y vs ds HC.out hany (by omega))
              have hg1s := hgrow.size
              rw [World.size_alloc] at hg1s
              have hgo : w.heap.size + 6 ≤ g' := by
                rcases hown'.2 with ⟨h9, _⟩ | ⟨g9, cap9, cur9, h9, h91, _⟩
                · cases h9
                · cases h9; exact h91
              have hset : ∀ k, k ≠ w.heap.size + 2 → (w1.setCell ⟨w.heap.size + 2, 0, none⟩ (.slice (some ⟨g', 0, none⟩) (ds.length + 1) cap')).heap[k]? = w1.heap[k]? := fun k hk => Below.heap_setCell _ _ _ k hk
              have hsz8 : (w1.setCell ⟨w.heap.size + 2, 0, none⟩ (.slice (some ⟨g', 0, none⟩) (ds.length + 1) cap')).heap.size = w1.heap.size := by simp
              have hlow : ∀ k, k < w.heap.size + 6 → k ≠ w.heap.size + 2 → (w1.setCell ⟨w.heap.size + 2, 0, none⟩ (.slice (some ⟨g', 0, none⟩) (ds.length + 1) cap')).heap[k]? = W7.heap[k]? := fun k hk hne => by
                rw [hset k hne, hgrow.block k (by rw [World.size_alloc]; omega) (fun e => by obtain ⟨h9, _⟩ := hog k e.symm; omega), Below.heap_alloc _ _ _ (by omega)]
              have hk8 : ∀ (k : Nat) (o9 : Obj), W7.heap[k]? = some o9 → (∀ cur, o9 ≠ Obj.cells cur 35 (0, 0)) → k ≠ w.heap.size + 2 → (w1.setCell ⟨w.heap.size + 2, 0, none⟩ (.slice (some ⟨g', 0, none⟩) (ds.length + 1) cap')).heap[k]? = some o9 := fun k o9 h9 hno hne => (hset k hne).trans (hmk w1 hgrow k o9 h9 hno)
              have hpb8 : (w1.setCell ⟨w.heap.size + 2, 0, none⟩ (.slice (some ⟨g', 0, none⟩) (ds.length + 1) cap')).heap[w.heap.size + 2]? = some (.cells #[.slice (some ⟨g', 0, none⟩) (ds.length + 1) cap', .bool rep] 25 (0, 0)) := by rw [setCell_blk (j := 0) _ hP8]; rfl
              have hown8 := hown'.kept (grownBy_setCell' w1 (w.heap.size + 2) (.slice (some ⟨g', 0, none⟩) (ds.length + 1) cap')) (.inr (fun e => by have e2 : g' = w.heap.size + 2 := Option.some.inj e; omega))
              have hbw8 : Below w.heap.size w (w1.setCell ⟨w.heap.size + 2, 0, none⟩ (.slice (some ⟨g', 0, none⟩) (ds.length + 1) cap')) := ((hbw7.alloc (by omega) _).grown hgrow (by rw [World.size_alloc]; omega) (fun k e => by obtain ⟨h9, _⟩ := hog k e; omega)).setCell (p := ⟨w.heap.size + 2, 0, none⟩) (by show _ ≤ w.heap.size + 2; omega) _
              have hkf8 : KeepsFrom (w.heap.size + 6) W (w1.setCell ⟨w.heap.size + 2, 0, none⟩ (.slice (some ⟨g', 0, none⟩) (ds.length + 1) cap')) := (hsz1 ▸ hkf7).trans ⟨by omega, fun k o' hk ho hc => hk8 k o' ho (fun cur e => by subst e; cases hc) (by omega)⟩
              have hn8 : w.heap.size + 6 ≤ (w1.setCell ⟨w.heap.size + 2, 0, none⟩ (.slice (some ⟨g', 0, none⟩) (ds.length + 1) cap')).heap.size := by omega
              show KeepsFrom (w.heap.size + 6) W (w1.setCell ⟨w.heap.size + 2, 0, none⟩ _) ∧ KpS _ W (w1.setCell ⟨w.heap.size + 2, 0, none⟩ _) ∧ ∃ ds, _ ∧ StP rep w ds (w1.setCell ⟨w.heap.size + 2, 0, none⟩ _)
              generalize (w1.setCell ⟨w.heap.size + 2, 0, none⟩ (.slice (some ⟨g', 0, none⟩) (ds.length + 1) cap')) = W8 at hset hsz8 hlow hk8 hpb8 hown8 hbw8 hkf8 hn8 ⊢
              refine ⟨hkf8, ⟨(hlow _ (by omega) (by omega)).trans hkp7.1, (hlow _ (by omega) (by omega)).trans hkp7.2.1, (hlow _ (by omega) (by omega)).trans hkp7.2.2⟩, _, hpx.trans HPM.out, _, inner ++ [.string (B (low y)), .slice (some ⟨g, o, none⟩) vs.length (cap - 1)], hpb8, ?_, Reps.snoc ⟨reps7.1, fun j p hj => (reps7.2 j p hj).keep (fun g9 cells hn hgc => (hk8 g9 _ hgc (fun cur e => by cases e) (by omega)).trans hgc.symm)⟩ ?_ rfl, by rw [List.length_append, List.length_singleton]; omega, (hlow _ (by omega) (by omega)).trans h47, (hlow _ (by omega) (by omega)).trans h57, hbw8, hn8⟩
              · rw [List.length_append, List.length_singleton]; exact hown8
              · refine ⟨g, o, cap - 1, cur, by rw [List.length_map], by rw [List.length_map]; omega, by rw [List.length_map]; omega, by omega, hk8 g _ hG7 (fun cur e => by cases e) (by omega), fun j z hj => ?_⟩
                have hvn : vs ≠ [] := by rintro rfl; simp at hj
                rw [ho1 hvn, Nat.add_comm]
                exact HG5.out (j + 1) z (by simpa using hj)
      · go_simp
        obtain ⟨W2, hW2⟩ : ∃ W2, W2 = W1d.alloc (.cells #[.string ⟨#[]⟩, .slice none 0 0] 35) := ⟨_, rfl⟩
        rw [← hW2]
        have hD2 : W2.heap[W1d.heap.size]? = some (.cells #[.string ⟨#[]⟩, .slice none 0 0] 35 (0, 0)) := by rw [hW2]; exact heap_newQ _ _
        have hB2 : Below W1.heap.size W1 W2 := by rw [hW2]; exact hHeld.2.out.alloc hHeld.2.out.size _
        have hdB : W1.heap.size ≤ W1d.heap.size := hHeld.2.out.size
        clear hW2
        generalize W1d.heap.size = dB at *
        refine hK.out _ _ (mk W2 hB2) (fun hHeld => ?_)
        clear hK
        try simp only [Act.put, List.setIfInBounds_toArray, List.set_cons_zero, List.set_cons_succ]
        refine wpAnyH_ready (rs := [3]) (by kernel_rfl) (by simp) (AllReadyH.cons rfl (fun K hK => ?_) AllReadyH.nil)
        go_simp
        refine (hlw _ hHeld.2).mono ?_
        rintro e W3 ⟨rfl, hb2, q1, q2⟩
        have hD := blk_keep hD2 hb2.out
        have hB3 := q2.out
        refine hK.out _ _ ⟨q1, q2⟩ (fun hHeld => ?_)
        clear hK hb2 q1 q2 hD2 hB2
        try simp only [Act.put, List.setIfInBounds_toArray, List.set_cons_zero, List.set_cons_succ]
        refine wpAnyH_take (i := 6) (oi := (⟨some 30, .build 35 #[(0, .tmp 27), (1, .tmp 29)], 35, "csp.go:36", #[⟨3, .data⟩, ⟨5, .data⟩], none⟩ : Oper)) (v := (.agg #[.string (B (low y)), .slice (some ⟨g, o, none⟩) vs.length (cap - 1)])) rfl (by kernel_rfl) (by kernel_rfl) (by kernel_rfl) (fun _ _ _ h => h) (Or.inl ⟨by rfl, ?_⟩) hHeld ?_
        · (intro W9 hSw; obtain ⟨z1, z2⟩ := hSw; clear hHeld; first | (go_simp; done) | (go_simp; with_reducible rfl))
        try simp only [Act.put, List.setIfInBounds_toArray, List.set_cons_zero, List.set_cons_succ]
        have d0 : W3.cell? ⟨dB, 0, none⟩ = some (.string ⟨#[]⟩) := by rw [Lib.cell_of_heap hD]; rfl
        have d1 : W3.cell? ⟨dB, 1, none⟩ = some (.slice none 0 0) := by rw [Lib.cell_of_heap hD]; rfl
        have f0 : W3.frozen? ⟨dB, 0, none⟩ = false := by simp [World.frozen?, hD]
        have f1 : W3.frozen? ⟨dB, 1, none⟩ = false := by simp [World.frozen?, hD]
        have HDB := Lib.hid hdB
        clear hdB
        refine wpAnyH_ready (rs := [8]) (by kernel_rfl) (by simp) (AllReadyH.cons rfl (fun K hK => ?_) AllReadyH.nil)
        go_simp
        have D5 : ((W3.setCell ⟨dB, 0, none⟩ (.string (B (low y)))).setCell ⟨dB, 1, none⟩ (.slice (some ⟨g, o, none⟩) vs.length (cap - 1))).heap[dB]? = some (.cells #[.string (B (low y)), .slice (some ⟨g, o, none⟩) vs.length (cap - 1)] 35 (0, 0)) := by
          rw [setCell_blk (j := 1) _ (setCell_blk (j := 0) _ hD)]; rfl
        have B5 : Below W1.heap.size W1 ((W3.setCell ⟨dB, 0, none⟩ (.string (B (low y)))).setCell ⟨dB, 1, none⟩ (.slice (some ⟨g, o, none⟩) vs.length (cap - 1))) := (hB3.setCell (p := ⟨dB, 0, none⟩) HDB.out _).setCell (p := ⟨dB, 1, none⟩) HDB.out _
        generalize ((W3.setCell ⟨dB, 0, none⟩ (.string (B (low y)))).setCell ⟨dB, 1, none⟩ (.slice (some ⟨g, o, none⟩) vs.length (cap - 1))) = W5 at D5 B5 ⊢
        refine hK.out _ _ (mk W5 B5) (fun hHeld => ?_)
        clear hK hHeld d0 d1 f0 f1 hD hB3
        try simp only [Act.put, List.setIfInBounds_toArray, List.set_cons_zero, List.set_cons_succ]
        refine wpAnyH_done (by kernel_rfl) ?_ _
        gi_wp2_with fail
        have hs5 := HST.out.below B5
        have hkf5 : KeepsFrom W0.heap.size W W5 := hkf.trans (KeepsFrom.of_grownBy (grown_of_below B5 none) (fun j e => by cases e))
        have hW1s : W.heap.size ≤ W1.heap.size := HB1.out.size
        have hkp5 : KpS (w.heap.size + 3) W W5 := ⟨(B5.block _ (by omega)).trans hkp.1, (B5.block _ (by omega)).trans hkp.2.1, (B5.block _ (by omega)).trans hkp.2.2⟩
        have HG5w : W5.heap[g]? = some (.cells cur 9 (0, 0)) := blk_keep HG2.out B5
        have HDW := Lib.hid (Nat.le_trans hW1s HDB.out)
        clear hlw mk HST HG2 hkf hkp B5 HDB
        obtain ⟨v5, inner, q1, q2, q3, q4, q5, q6, q7, q8⟩ := hs5
        have hN := dirs_N q2 q3
        obtain ⟨A, c, rfl⟩ := Kd.N_slice hN
        have hC5 := (Kd.N_reads' hN).2.2
        have hAc := (Kd.N_reads' hN).2.1
        clear hN
        have hdlt : dB < W5.heap.size := blk_lt0 D5
        have mk5 : ∀ W', Below W5.heap.size W5 W' → W'.cell? ⟨w.heap.size + 2, 0, none⟩ = some (.slice A ds.length c) ∧ W'.cell? ⟨dB, 0, none⟩ = some (.string (B (low y))) ∧ Hid (Below W5.heap.size W5 W') := fun W' h => ⟨by rw [Lib.cell_of_heap (blk_keep q1 h)]; rfl, by rw [Lib.cell_of_heap (blk_keep D5 h)]; rfl, Lib.hid h⟩
        have hnm : ∀ W', Hid (Below W5.heap.size W5 W') → Calls Tryz.prog 35 #[.string (B (low y))] W' fun e W6 => ∃ b, e = .returned (.func (.func 57) #[] #[.pointer (some ⟨b, 0, none⟩)]) ∧ Hid (W6.cell? ⟨b, 0, none⟩ = some (.string (B (low y)))) ∧ W6.cell? ⟨w.heap.size + 2, 0, none⟩ = some (.slice A ds.length c) ∧ W6.cell? ⟨dB, 0, none⟩ = some (.string (B (low y))) ∧ Hid (Below W5.heap.size W5 W6) := fun W' hW =>
          (named_calls (B (low y)) W').mono (by
            rintro e W6 ⟨rfl, rfl⟩
            exact ⟨_, rfl, Lib.hid (by rw [Lib.cell_of_heap (heap_newQ _ _)]; rfl), mk5 _ (hW.out.alloc hW.out.size _)⟩)
        have hhas : ∀ (W' : World) (b : Nat), Hid (Below W5.heap.size W5 W') → W'.cell? ⟨b, 0, none⟩ = some (.string (B (low y))) → Calls Tryz.prog 34 #[.slice A ds.length c, .func (.func 57) #[] #[.pointer (some ⟨b, 0, none⟩)]] W' fun e W6 => e = .returned (.bool (ds.any fun e => e.f0.toList == (B (low y)).toList)) ∧ W6.cell? ⟨w.heap.size + 2, 0, none⟩ = some (.slice A ds.length c) ∧ W6.cell? ⟨dB, 0, none⟩ = some (.string (B (low y))) ∧ Hid (Below W5.heap.size W5 W6) := fun W' b hW hb => by
          refine (dirHas_calls A c ds (fun z => z.toList == (B (low y)).toList) 57 #[.pointer (some ⟨b, 0, none⟩)] (enters_of Tryz.func57 (by kernel_rfl) rfl) W' (by omega) (Kd.C_below hC5 hW.out)
            (fun W2 z v h2 => named1_calls z (B (low y)) v b W2 (pw_cell_below h2 hb))).mono ?_
          rintro e W6 ⟨rfl, h⟩
          exact ⟨rfl, mk5 W6 (hW.out.trans (h.mono hW.out.size))⟩
        have HC5 := Lib.hid hC5
        have HQ3 := Lib.hid q3
        have HQ2 := Lib.hid q2
        have HQ1 := Lib.hid q1
        have HD5 := Lib.hid D5
        clear hC5 q3 q2 q1 D5
        refine wpIn_round_any (by kernel_rfl) (by rintro ⟨_, _, h⟩; exact h) (by kernel_rfl) (fun W5d hd => ?_)
        refine wpAny_of_held (S := (fun W' => W'.cell? ⟨w.heap.size + 2, 0, none⟩ = some (.slice A ds.length c) ∧ W'.cell? ⟨dB, 0, none⟩ = some (.string (B (low y))) ∧ Hid (Below W5.heap.size W5 W'))) _ _ _ _ ?_
        have hHeld := mk5 W5d (by rw [hd]; exact (Below.refl _ W5).drew)
        clear hd
        refine wpAnyH_take (i := 0) (oi := (⟨some 38, .fieldAddr 25 (.tmp 6) 0, 0, "csp.go:38", #[], none⟩ : Oper)) (v := (.pointer (some ⟨w.heap.size + 2, 0, none⟩))) rfl (by kernel_rfl) (by kernel_rfl) (by kernel_rfl) (fun _ _ _ h => h) (Or.inl ⟨by rfl, ?_⟩) hHeld ?_
        · (intro W9 hSw; obtain ⟨z1, z2, z3⟩ := hSw; clear hHeld; first | (go_simp; done) | (go_simp; with_reducible rfl))
        try simp only [Act.put, List.setIfInBounds_toArray, List.set_cons_zero, List.set_cons_succ]
        refine wpAnyH_take (i := 1) (oi := (⟨some 39, .load 23 (.tmp 38), 23, "csp.go:38", #[⟨0, .data⟩], none⟩ : Oper)) (v := (.slice A ds.length c)) rfl (by kernel_rfl) (by kernel_rfl) (by kernel_rfl) (fun _ _ _ h => h) (Or.inl ⟨by rfl, ?_⟩) hHeld ?_
        · (intro W9 hSw; obtain ⟨z1, z2, z3⟩ := hSw; clear hHeld; first | (go_simp; done) | (go_simp; with_reducible rfl))
        try simp only [Act.put, List.setIfInBounds_toArray, List.set_cons_zero, List.set_cons_succ]
        refine wpAnyH_take (i := 2) (oi := (⟨some 40, .fieldAddr 35 (.tmp 9) 0, 0, "csp.go:38", #[], none⟩ : Oper)) (v := (.pointer (some ⟨dB, 0, none⟩))) rfl (by kernel_rfl) (by kernel_rfl) (by kernel_rfl) (fun _ _ _ h => h) (Or.inl ⟨by rfl, ?_⟩) hHeld ?_
        · (intro W9 hSw; obtain ⟨z1, z2, z3⟩ := hSw; clear hHeld; first | (go_simp; done) | (go_simp; with_reducible rfl))
        try simp only [Act.put, List.setIfInBounds_toArray, List.set_cons_zero, List.set_cons_succ]
        refine wpAnyH_take (i := 3) (oi := (⟨some 41, .load 9 (.tmp 40), 9, "csp.go:38", #[⟨2, .data⟩], none⟩ : Oper)) (v := (.string (B (low y)))) rfl (by kernel_rfl) (by kernel_rfl) (by kernel_rfl) (fun _ _ _ h => h) (Or.inl ⟨by rfl, ?_⟩) hHeld ?_
        · (intro W9 hSw; obtain ⟨z1, z2, z3⟩ := hSw; clear hHeld; first | (go_simp; done) | (go_simp; with_reducible rfl))
        try simp only [Act.put, List.setIfInBounds_toArray, List.set_cons_zero, List.set_cons_succ]
        refine wpAnyH_ready (rs := [4]) (by kernel_rfl) (by simp) (AllReadyH.cons rfl (fun K hK => ?_) AllReadyH.nil)
        go_simp
        refine (hnm _ hHeld.2.2).mono ?_
        rintro e W6 ⟨b, rfl, hbc, hS6⟩
        refine hK.out _ _ hS6 (fun hHeld => ?_)
        clear hK hS6
        try simp only [Act.put, List.setIfInBounds_toArray, List.set_cons_zero, List.set_cons_succ]
        refine wpAnyH_ready (rs := [5]) (by kernel_rfl) (by simp) (AllReadyH.cons rfl (fun K hK => ?_) AllReadyH.nil)
        go_simp
        refine (hhas _ b hHeld.2.2 hbc.out).mono ?_
        rintro e W7 ⟨rfl, hS7⟩
        refine hK.out _ _ hS7 (fun hHeld => ?_)
        clear hK hbc hnm hhas
        try simp only [Act.put, List.setIfInBounds_toArray, List.set_cons_zero, List.set_cons_succ]
        refine wpAnyH_take (i := 6) (oi := (⟨some 37, .assign (.tmp 43), 4, "csp.go:38", #[⟨5, .data⟩, ⟨5, .chain⟩], none⟩ : Oper)) (v := (.bool (ds.any fun e => e.f0.toList == (B (low y)).toList))) rfl (by kernel_rfl) (by kernel_rfl) (by kernel_rfl) (fun _ _ _ h => h) (Or.inl ⟨by rfl, ?_⟩) hHeld ?_
        · (intro W9 hSw; obtain ⟨z1, z2, z3⟩ := hSw; clear hHeld; first | (go_simp; done) | (go_simp; with_reducible rfl))
        try simp only [Act.put, List.setIfInBounds_toArray, List.set_cons_zero, List.set_cons_succ]
        refine wpAnyH_done (by kernel_rfl) ?_ _
        obtain ⟨c7, d7, hb7⟩ := hHeld
        cases hany : (ds.any fun e => e.f0.toList == (B (low y)).toList) with
        | true =>
          gi_wp2
          exact ⟨hkf5.trans (KeepsFrom.of_grownBy (grown_of_below hb7.out none) (fun j e => by cases e)), ⟨(hb7.out.block _ (by omega)).trans hkp5.1, (hb7.out.block _ (by omega)).trans hkp5.2.1, (hb7.out.block _ (by omega)).trans hkp5.2.2⟩, ds, hpx.trans (parse_hit x y vs ds HC.out hany), StP.below ⟨_, inner, HQ1.out, HQ2.out, HQ3.out, q4, q5, q6, q7, q8⟩ hb7.out⟩
        | false =>
          have hP7 := blk_keep HQ1.out hb7.out
          have hD7 := blk_keep HD5.out hb7.out
          have h47 := blk_keep q5 hb7.out
          have h57 := blk_keep q6 hb7.out
          have hG7 := blk_keep HG5w hb7.out
          have hN7 := Nat.le_trans q8 hb7.out.size
          have hbw7 := q7.trans (hb7.out.mono q7.size)
          have own7 := HQ2.out.kept (w' := W7) (row := (Value.slice none 0 0).ownBlock) (grown_of_below hb7.out _) (by cases A with | none => exact .inl rfl | some a => exact .inr (fun e => by cases e))
          have reps7 : Reps (DirAt (w.heap.size + 6) W7) 2 ds inner := ⟨HQ3.out.1, fun j p hj => (HQ3.out.2 j p hj).keep (fun g' cells hn hgc => (blk_keep hgc hb7.out).trans hgc.symm)⟩
          have hkf7 := hkf5.trans (KeepsFrom.of_grownBy (B := W0.heap.size) (grown_of_below hb7.out none) (fun j e => by cases e))
          have hkp7 : KpS (w.heap.size + 3) W W7 := ⟨(hb7.out.block _ (by omega)).trans hkp5.1, (hb7.out.block _ (by omega)).trans hkp5.2.1, (hb7.out.block _ (by omega)).trans hkp5.2.2⟩
          have c71 : W7.cell? ⟨w.heap.size + 2, 1, none⟩ = some (.bool rep) := by rw [Lib.cell_of_heap hP7]; rfl
          have e7 : W7.cell? ⟨dB, 1, none⟩ = some (.slice (some ⟨g, o, none⟩) vs.length (cap - 1)) := by rw [Lib.cell_of_heap hD7]; rfl
          have a40 : W7.cell? ⟨w.heap.size, 0, none⟩ = some (.slice none 0 0) := by rw [Lib.cell_of_heap h47]; rfl
          have a41 : W7.cell? ⟨w.heap.size, 1, none⟩ = some (.bool false) := by rw [Lib.cell_of_heap h47]; rfl
          have a50 : W7.cell? ⟨w.heap.size + 1, 0, none⟩ = some (.int .i64 0) := by rw [Lib.cell_of_heap h57]; rfl
          have y40 : W7.frozen? ⟨w.heap.size, 0, none⟩ = false := by simp [World.frozen?, h47]
          have y41 : W7.frozen? ⟨w.heap.size, 1, none⟩ = false := by simp [World.frozen?, h47]
          have y50 : W7.frozen? ⟨w.heap.size + 1, 0, none⟩ = false := by simp [World.frozen?, h57]
          have hout : parseGo [x] ds = none → (OutP s w (((W7.setCell ⟨w.heap.size, 0, none⟩ (.slice none 0 0)).setCell ⟨w.heap.size, 1, none⟩ (.bool false)).setCell ⟨w.heap.size + 1, 0, none⟩ (.int .i64 3)) ∧ KeepsFrom W0.heap.size W (((W7.setCell ⟨w.heap.size, 0, none⟩ (.slice none 0 0)).setCell ⟨w.heap.size, 1, none⟩ (.bool false)).setCell ⟨w.heap.size + 1, 0, none⟩ (.int .i64 3))) := fun hnone => by
            obtain ⟨tl, htl⟩ := hpre
            refine ⟨⟨?_, ?_, ((hbw7.setCell (p := ⟨w.heap.size, 0, none⟩) (Nat.le_refl _) _).setCell (p := ⟨w.heap.size, 1, none⟩) (Nat.le_refl _) _).setCell (p := ⟨w.heap.size + 1, 0, none⟩) (by show _ ≤ w.heap.size + 1; omega) _, by simpa using hN7, by rw [← htl, parseGo_append, hpx, hnone]; rfl⟩, hkf7.trans ⟨by simp, fun k o' hk ho hc => ?_⟩⟩
            · rw [Below.heap_setCell _ _ _ _ (by show w.heap.size ≠ w.heap.size + 1; omega), setCell_blk (j := 1) _ (setCell_blk (j := 0) _ h47)]; rfl
            · have h57' : ((W7.setCell ⟨w.heap.size, 0, none⟩ (.slice none 0 0)).setCell ⟨w.heap.size, 1, none⟩ (.bool false)).heap[w.heap.size + 1]? = some (.cells #[.int .i64 0] 26 (0, 0)) := by
                rw [Below.heap_setCell _ _ _ _ (by show w.heap.size + 1 ≠ w.heap.size; omega), Below.heap_setCell _ _ _ _ (by show w.heap.size + 1 ≠ w.heap.size; omega)]; exact h57
              rw [setCell_blk (j := 0) _ h57']; rfl
            · rw [Below.heap_setCell _ _ _ k (by show k ≠ w.heap.size + 1; omega), Below.heap_setCell _ _ _ k (by show k ≠ w.heap.size; omega), Below.heap_setCell _ _ _ k (by show k ≠ w.heap.size; omega)]; exact ho
          by_cases hv : vs.length > 64
          · have hvz : (vs.length : Int) > 64 := by omega
            have ho9 := hout (parse_many x y vs ds HC.out hany (.inl hv))
            gi_wp2
            exact ⟨by first | exact ho9.2 | exact hsz1 ▸ ho9.2, rfl, ho9.1⟩
          · have hvz : ¬ (vs.length : Int) > 64 := by omega
            by_cases hd : ds.length ≥ 64
            · have hdz : (ds.length : Int) ≥ 64 := by omega
              have ho9 := hout (parse_many x y vs ds HC.out hany (.inr hd))
              gi_wp2
              exact ⟨by first | exact ho9.2 | exact hsz1 ▸ ho9.2, rfl, ho9.1⟩
            · have hdz : ¬ (ds.length : Int) ≥ 64 := by omega
              clear hout a40 a41 a50 y40 y41 y50
              obtain ⟨i0, hi0, hz0, hz1, hz2⟩ := info_parts info35
              have hog : ∀ k, (Value.slice A ds.length c).ownBlock = some k → w.heap.size + 6 ≤ k ∧ ∃ cur, W7.heap[k]? = some (.cells cur 35 (0, 0)) := fun k hk => by
                rcases own7.2 with ⟨h9, _⟩ | ⟨g9, cap9, cur9, h9, h91, h92, _⟩
                · rw [h9] at hk; cases hk
                · rw [h9] at hk; cases hk; exact ⟨h91, _, h92⟩
              have hmk : ∀ w1, (W7.alloc (.cells #[.string (B (low y)), .slice (some ⟨g, o, none⟩) vs.length (cap - 1)] 35)).grownBy w1 (Value.slice A ds.length c).ownBlock → ∀ (k : Nat) (o9 : Obj), W7.heap[k]? = some o9 → (∀ cur, o9 ≠ Obj.cells cur 35 (0, 0)) → w1.heap[k]? = some o9 := fun w1 hg9 k o9 hk hno => by
                have hlt := blk_lt0 hk
                rw [hg9.block k (by simp; omega) (fun e => by obtain ⟨_, cur, h9⟩ := hog k e.symm; rw [hk] at h9; exact hno cur (Option.some.inj h9)), Below.heap_alloc _ _ _ hlt]
                exact hk
              gi_wp2_with (gi_at_builtin; refine wpListIn_append_own _ rfl _ _ 23 rfl (w.heap.size + 6) 35 i0 (.agg #[.string ⟨#[]⟩, .slice none 0 0]) 2 40 Tryz.underlying23 hi0 hz0 hz1 hz2 rfl (by decide) _ _ _ rfl (own7.alloc _) ⟨W7.heap.size, 0, none⟩ 1 1 [.string (B (low y)), .slice (some ⟨g, o, none⟩) vs.length (cap - 1)] rfl rfl (cell_two_new _ _ _ _) (by intro u hu; simp at hu; rcases hu with rfl | rfl <;> rfl) (by unfold maxLen; omega) (by omega) (by simp; omega) ?_; intro v' w1 hown' hgrow _; obtain ⟨g', cap', rfl⟩ := ownsRow_succ hown'; have hP8 := hmk w1 hgrow _ _ hP7 (fun cur e => by cases e); have c81 : w1.cell? ⟨w.heap.size + 2, 0, none⟩ = some (.slice A ds.length c) := (by rw [Lib.cell_of_heap hP8]; rfl); have f81 : w1.frozen? ⟨w.heap.size + 2, 0, none⟩ = false := (by simp [World.frozen?, hP8]))
              have HPM := Lib.hid (parse_more x y vs ds HC.out hany (by omega))
              have hg1s := hgrow.size
              rw [World.size_alloc] at hg1s
              have hgo : w.heap.size + 6 ≤ g' := by
                rcases hown'.2 with ⟨h9, _⟩ | ⟨g9, cap9, cur9, h9, h91, _⟩
                · cases h9
                · cases h9; exact h91
              have hset : ∀ k, k ≠ w.heap.size + 2 → (w1.setCell ⟨w.heap.size + 2, 0, none⟩ (.slice (some ⟨g', 0, none⟩) (ds.length + 1) cap')).heap[k]? = w1.heap[k]? := fun k hk => Below.heap_setCell _ _ _ k hk
              have hsz8 : (w1.setCell ⟨w.heap.size + 2, 0, none⟩ (.slice (some ⟨g', 0, none⟩) (ds.length + 1) cap')).heap.size = w1.heap.size := by simp
              have hlow : ∀ k, k < w.heap.size + 6 → k ≠ w.heap.size + 2 → (w1.setCell ⟨w.heap.size + 2, 0, none⟩ (.slice (some ⟨g', 0, none⟩) (ds.length + 1) cap')).heap[k]? = W7.heap[k]? := fun k hk hne => by
                rw [hset k hne, hgrow.block k (by rw [World.size_alloc]; omega) (fun e => by obtain ⟨h9, _⟩ := hog k e.symm; omega), Below.heap_alloc _ _ _ (by omega)]
              have hk8 : ∀ (k : Nat) (o9 : Obj), W7.heap[k]? = some o9 → (∀ cur, o9 ≠ Obj.cells cur 35 (0, 0)) → k ≠ w.heap.size + 2 → (w1.setCell ⟨w.heap.size + 2, 0, none⟩ (.slice (some ⟨g', 0, none⟩) (ds.length + 1) cap')).heap[k]? = some o9 := fun k o9 h9 hno hne => (hset k hne).trans (hmk w1 hgrow k o9 h9 hno)
              have hpb8 : (w1.setCell ⟨w.heap.size + 2, 0, none⟩ (.slice (some ⟨g', 0, none⟩) (ds.length + 1) cap')).heap[w.heap.size + 2]? = some (.cells #[.slice (some ⟨g', 0, none⟩) (ds.length + 1) cap', .bool rep] 25 (0, 0)) := by rw [setCell_blk (j := 0) _ hP8]; rfl
              have hown8 := hown'.kept (grownBy_setCell' w1 (w.heap.size + 2) (.slice (some ⟨g', 0, none⟩) (ds.length + 1) cap')) (.inr (fun e => by have e2 : g' = w.heap.size + 2 := Option.some.inj e; omega))
              have hbw8 : Below w.heap.size w (w1.setCell ⟨w.heap.size + 2, 0, none⟩ (.slice (some ⟨g', 0, none⟩) (ds.length + 1) cap')) := ((hbw7.alloc (by omega) _).grown hgrow (by rw [World.size_alloc]; omega) (fun k e => by obtain ⟨h9, _⟩ := hog k e; omega)).setCell (p := ⟨w.heap.size + 2, 0, none⟩) (by show _ ≤ w.heap.size + 2; omega) _
              have hkf8 : KeepsFrom (w.heap.size + 6) W (w1.setCell ⟨w.heap.size + 2, 0, none⟩ (.slice (some ⟨g', 0, none⟩) (ds.length + 1) cap')) := (hsz1 ▸ hkf7).trans ⟨by omega, fun k o' hk ho hc => hk8 k o' ho (fun cur e => by subst e; cases hc) (by omega)⟩
              have hn8 : w.heap.size + 6 ≤ (w1.setCell ⟨w.heap.size + 2, 0, none⟩ (.slice (some ⟨g', 0, none⟩) (ds.length + 1) cap')).heap.size := by omega
              show KeepsFrom (w.heap.size + 6) W (w1.setCell ⟨w.heap.size + 2, 0, none⟩ _) ∧ KpS _ W (w1.setCell ⟨w.heap.size + 2, 0, none⟩ _) ∧ ∃ ds, _ ∧ StP rep w ds (w1.setCell ⟨w.heap.size + 2, 0, none⟩ _)
              generalize (w1.setCell ⟨w.heap.size + 2, 0, none⟩ (.slice (some ⟨g', 0, none⟩) (ds.length + 1) cap')) = W8 at hset hsz8 hlow hk8 hpb8 hown8 hbw8 hkf8 hn8 ⊢
              refine ⟨hkf8, ⟨(hlow _ (by omega) (by omega)).trans hkp7.1, (hlow _ (by omega) (by omega)).trans hkp7.2.1, (hlow _ (by omega) (by omega)).trans hkp7.2.2⟩, _, hpx.trans HPM.out, _, inner ++ [.string (B (low y)), .slice (some ⟨g, o, none⟩) vs.length (cap - 1)], hpb8, ?_, Reps.snoc ⟨reps7.1, fun j p hj => (reps7.2 j p hj).keep (fun g9 cells hn hgc => (hk8 g9 _ hgc (fun cur e => by cases e) (by omega)).trans hgc.symm)⟩ ?_ rfl, by rw [List.length_append, List.length_singleton]; omega, (hlow _ (by omega) (by omega)).trans h47, (hlow _ (by omega) (by omega)).trans h57, hbw8, hn8⟩
              · rw [List.length_append, List.length_singleton]; exact hown8
              · refine ⟨g, o, cap - 1, cur, by rw [List.length_map], by rw [List.length_map]; omega, by rw [List.length_map]; omega, by omega, hk8 g _ hG7 (fun cur e => by cases e) (by omega), fun j z hj => ?_⟩
                have hvn : vs ≠ [] := by rintro rfl; simp at hj
                rw [ho1 hvn, Nat.add_comm]
                exact HG5.out (j + 1) z (by simpa using hj)
theorem parse_long (s : ByteArray) (rep : Bool) (hs : ¬ s.size ≤ 4096) (w : World) :
    Calls Tryz.prog 11 #[.string s, .bool rep] w fun e w' => e = .returned (.tuple #[.agg #[.slice none 0 0, .bool false], .int .i64 4]) ∧ Below w.heap.size w w' := by
  have hlt0 : (s.size : Int) > 4096 := by omega
  go_enter Tryz.func11, Tryz.ntmps11
  go_wp2_with fail
  (try simp only [Exit.inBlock, Exit.then])
  have e1 := World.alloc_heap_new (w.alloc (.cells #[.slice none 0 0, .bool false] 25)) (.cells #[.int .i64 4] 26)
  rw [World.size_alloc] at e1
  refine bodyPost_ret (results_cs rfl _ _ w.heap.size (w.heap.size + 1) 25 26 #[.slice none 0 0, .bool false] (.int .i64 4) (0, 0) (0, 0) _ .i64 rfl ((Below.heap_alloc _ _ _ (by simp)).trans (World.alloc_heap_new w _)) Tryz.underlying25 rfl (by kernel_rfl) rfl e1 Tryz.underlying26) rfl ?_
  exact ⟨rfl, ((Below.refl _ w).alloc (Nat.le_refl _) _).alloc (by simp) _⟩
def csp_Parse.f (a0 : ByteArray) (a1 : Bool) : Option (List S35 × Bool × Int) :=
  if a0.size ≤ 4096 then (match parseGo (parts 59 a0.data.toList) [] with
    | some ds => some (ds, a1, 0)
    | none => some ([], false, 3)) else some ([], false, 4)
theorem csp_Parse.calls (a0 : ByteArray) (a1 : Bool) (r1 : List S35) (r2 : Bool) (r3 : Int) (w : World) (h : csp_Parse.f a0 a1 = some (r1, r2, r3)) :
    Calls Tryz.prog 11 #[.string a0, .bool a1] w fun e w' => ∃ v0_ : Value, e = .returned (.tuple #[.agg #[v0_, .bool r2], .int .i64 r3]) ∧ Kd.N k35 35 w' w.heap.size (fun k_ => w.heap.size ≤ k_) v0_ r1 ∧ Below w.heap.size w w' := by
  unfold csp_Parse.f at h
  split at h
  · rename_i hs
    have hs' : a0.data.toList.length ≤ 4096 := by rw [Array.length_toList]; exact hs
    refine (callsIn_wide.1 (parse_in a0.data.toList a1 hs' w)).mono ?_
    rintro e w' ⟨(⟨ds, v, hp, rfl, inner, ho, hr⟩ | ⟨hp, rfl⟩), hb⟩
    · rw [hp] at h
      cases h
      exact ⟨v, rfl, dirs_N ho hr, hb⟩
    · rw [hp] at h
      cases h
      exact ⟨_, rfl, Kd.N_nil _ _ _ _ _, hb⟩
  · rename_i hs
    cases h
    refine (parse_long a0 a1 hs w).mono ?_
    rintro e w' ⟨rfl, hb⟩
    exact ⟨_, rfl, Kd.N_nil _ _ _ _ _, hb⟩
end Go.Proofs.YtnndgmbflkdhkaaGreatDoor.Q
namespace Go.Proofs.YtnndgmbflkdhkaaGreatDoor.Q
open Go.RowKit Go.Proofs.YtnndgmbflkdhkaaGreatDoorW.PrintWords Go.Proofs.YtnndgmbflkdhkaaGreatDoorW.PrintLast Go.Proofs.YtnndgmbflkdhkaaGreatDoorW.PrintMore Go.Proofs.YtnndgmbflkdhkaaGreatDoor.P1 Go.Proofs.YtnndgmbflkdhkaaGreatDoor.R
/-- what csp.Parse answers: the error's number, and the directives -/
def pErr (s : List UInt8) : Int × List S35 := if s.length ≤ 4096 then (match parseGo (parts 59 s) [] with | some ds => (0, ds) | none => (3, [])) else (4, [])
theorem parse_raw (s : List UInt8) (rep : Bool) (w : World) :
    Calls Tryz.prog 11 #[.string (B s), .bool rep] w fun e w' => (∃ (v : Value) (inner : List Value) (b : Bool), e = .returned (.tuple #[.agg #[v, .bool b], .int .i64 (pErr s).1]) ∧ ((pErr s).1 = 0 → b = rep) ∧ w'.ownsRow w.heap.size 35 2 v (pErr s).2.length inner ∧ Reps (DirAt w.heap.size w') 2 (pErr s).2 inner) ∧ Below w.heap.size w w' := by
  unfold pErr
  split
  · rename_i hs
    refine (callsIn_wide.1 (parse_in s rep hs w)).mono ?_
    rintro e w' ⟨(⟨ds, v, hp, rfl, inner, ho, hr⟩ | ⟨hp, rfl⟩), hb⟩
    · rw [hp]
      exact ⟨⟨v, inner, rep, rfl, fun _ => rfl, ho, hr⟩, hb⟩
    · rw [hp]
      exact ⟨⟨_, [], false, rfl, (fun h => absurd h (by decide)), ⟨rfl, .inl ⟨rfl, rfl⟩⟩, ⟨rfl, fun j p hj => by simp at hj⟩⟩, hb⟩
  · rename_i hs
    refine (parse_long (B s) rep (by rw [B_size]; exact hs) w).mono ?_
    rintro e w' ⟨rfl, hb⟩
    exact ⟨⟨_, [], false, rfl, (fun h => absurd h (by decide)), ⟨rfl, .inl ⟨rfl, rfl⟩⟩, ⟨rfl, fun j p hj => by simp at hj⟩⟩, hb⟩
theorem pErr_f (s : List UInt8) (rep : Bool) : csp_Parse.f (B s) rep = some ((pErr s).2, (if (pErr s).1 = 0 then rep else false), (pErr s).1) := by
  unfold csp_Parse.f pErr
  rw [B_size, B_data]
  split
  · cases parseGo (parts 59 s) [] <;> rfl
  · rfl
end Go.Proofs.YtnndgmbflkdhkaaGreatDoor.Q
