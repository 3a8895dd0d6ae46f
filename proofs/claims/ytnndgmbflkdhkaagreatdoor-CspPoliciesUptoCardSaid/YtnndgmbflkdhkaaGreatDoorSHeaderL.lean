/- csp.Header: policies as they lie. -/
import Derived.Test.YtnndgmbflkdhkaaGreatDoorSParse
set_option linter.unusedSimpArgs false
set_option linter.unusedVariables false
namespace Go.Proofs.YtnndgmbflkdhkaaGreatDoor.Q
open Go.RowKit Go.Proofs.YtnndgmbflkdhkaaGreatDoorW.PrintWords Go.Proofs.YtnndgmbflkdhkaaGreatDoorW.PrintLast Go.Proofs.YtnndgmbflkdhkaaGreatDoorW.PrintMore Go.Proofs.YtnndgmbflkdhkaaGreatDoor.P1 Go.Proofs.YtnndgmbflkdhkaaGreatDoor.R
/-- the policies of some parts, one behind the other; the first error ends it -/
def headGo (rep : Bool) : List (List UInt8) → List S25 → Int × List S25
  | [], acc => (0, acc)
  | p :: ps, acc => if (pErr p).1 = 0 then headGo rep ps (if (pErr p).2 = [] then acc else acc ++ [⟨(pErr p).2, rep⟩]) else ((pErr p).1, [])
theorem headGo_cons (rep : Bool) (p : List UInt8) (ps : List (List UInt8)) (acc : List S25) : headGo rep (p :: ps) acc = if (pErr p).1 = 0 then headGo rep ps (if (pErr p).2 = [] then acc else acc ++ [⟨(pErr p).2, rep⟩]) else ((pErr p).1, []) := rfl
theorem headGo_append (rep : Bool) : ∀ (a b : List (List UInt8)) (acc : List S25), headGo rep (a ++ b) acc = if (headGo rep a acc).1 = 0 then headGo rep b (headGo rep a acc).2 else ((headGo rep a acc).1, [])
  | [], b, acc => rfl
  | p :: ps, b, acc => by
    rw [List.cons_append, headGo_cons, headGo_cons]
    split
    · exact headGo_append rep ps b _
    · rename_i h
      rfl
theorem headGo_len (rep : Bool) : ∀ (a : List (List UInt8)) (acc : List S25), (headGo rep a acc).2.length ≤ acc.length + a.length
  | [], acc => by simp [headGo]
  | p :: ps, acc => by
    unfold headGo
    split
    · refine Nat.le_trans (headGo_len rep ps _) ?_
      split
      · simp
      · simp; omega
    · simp
theorem infoPol : (Tryz.prog.info? 25).map (fun i => (i.zero, i.size, i.bytes)) = some (some (.agg #[(.slice none 0 0), (.bool false)]), 2, 32) := by kernel_rfl
/-- a directive as it lies: its values in a row of words in a block of P -/
def DirP (P : Nat → Prop) (W : World) (x : S35) (cs : List Value) : Prop :=
  ∃ (g o c : Nat) (cells : Array Value), cs = [.string x.f0, .slice (some ⟨g, o, none⟩) x.f1.length c] ∧ x.f1.length ≤ c ∧ x.f1.length ≤ 1048576 ∧ P g ∧ W.heap[g]? = some (.cells cells 9 (0, 0)) ∧ ∀ (j : Nat) y, x.f1[j]? = some y → cells[o + j]? = some (.string y)
theorem DirP.of {n1 : Nat} {P : Nat → Prop} {W : World} {x : S35} {cs : List Value} (h : DirAt n1 W x cs) (hP : ∀ g, n1 ≤ g → g < W.heap.size → P g) : DirP P W x cs := by
  obtain ⟨g, o, c, cells, h1, h2, h3, h4, h5, h6⟩ := h
  exact ⟨g, o, c, cells, h1, h2, h3, hP g h4 (blk_lt0 h5), h5, h6⟩
theorem DirP.at {n1 : Nat} {P : Nat → Prop} {W : World} {x : S35} {cs : List Value} (h : DirP P W x cs) (hP : ∀ g, P g → n1 ≤ g) : DirAt n1 W x cs := by
  obtain ⟨g, o, c, cells, h1, h2, h3, h4, h5, h6⟩ := h
  exact ⟨g, o, c, cells, h1, h2, h3, hP g h4, h5, h6⟩
theorem DirP.keep {P Q : Nat → Prop} {W C : World} {x : S35} {cs : List Value} (h : DirP P W x cs) (hk : ∀ g cells, P g → W.heap[g]? = some (.cells cells 9 (0, 0)) → Q g ∧ C.heap[g]? = W.heap[g]?) : DirP Q C x cs := by
  obtain ⟨g, o, c, cells, h1, h2, h3, h4, h5, h6⟩ := h
  exact ⟨g, o, c, cells, h1, h2, h3, (hk g cells h4 h5).1, (hk g cells h4 h5).2.trans h5, h6⟩
theorem owns_move {w w' : World} {base : Nat} {e : TypeId} {size : Nat} {v : Value} {n : Nat} {xs : List Value} (h : w.ownsRow base e size v n xs) (hk : ∀ g cells, base ≤ g → w.heap[g]? = some (.cells cells e (0, 0)) → w'.heap[g]? = w.heap[g]?) : w'.ownsRow base e size v n xs := by
  refine ⟨h.1, ?_⟩
  rcases h.2 with h | ⟨g, cap, cur, h1, h2, h3, h4⟩
  · exact .inl h
  · exact .inr ⟨g, cap, cur, h1, h2, (hk g _ h2 h3).trans h3, h4⟩
/-- a policy as it lies -/
def PolP (P : Nat → Prop) (n1 : Nat) (W : World) (x : S25) (cs : List Value) : Prop :=
  ∃ (v : Value) (inner : List Value), cs = [v, .bool x.f1] ∧ W.ownsRow n1 35 2 v x.f0.length inner ∧ Reps (DirP P W) 2 x.f0 inner
theorem PolP.keep {P Q : Nat → Prop} {n1 : Nat} {W C : World} {x : S25} {cs : List Value} (h : PolP P n1 W x cs) (hk : ∀ g cells, P g → W.heap[g]? = some (.cells cells 9 (0, 0)) → Q g ∧ C.heap[g]? = W.heap[g]?)
    (hk2 : ∀ g cells, n1 ≤ g → W.heap[g]? = some (.cells cells 35 (0, 0)) → C.heap[g]? = W.heap[g]?) : PolP Q n1 C x cs := by
  obtain ⟨v, inner, h1, h2, h3⟩ := h
  exact ⟨v, inner, h1, owns_move h2 hk2, h3.1, fun j p hj => (h3.2 j p hj).keep hk⟩
theorem PolP.len {P : Nat → Prop} {n1 : Nat} {W : World} {x : S25} {cs : List Value} (h : PolP P n1 W x cs) : cs.length = 2 ∧ ∀ u ∈ cs, u.oneCell' = true := by
  obtain ⟨v, inner, rfl, h2, h3⟩ := h
  refine ⟨rfl, ?_⟩
  have hv : v.oneCell' = true := by
    rcases h2.2 with ⟨rfl, _⟩ | ⟨g, cap, cur, rfl, _⟩ <;> rfl
  intro u hu
  simp at hu
  rcases hu with rfl | rfl
  · exact hv
  · rfl
theorem PolP.fk {P : Nat → Prop} {n1 : Nat} {W : World} {x : S25} {cs : List Value} {ok : Nat → Prop} (h : PolP P n1 W x cs) (hP : ∀ g, P g → n1 ≤ g)
    (hok : ∀ g cells, n1 ≤ g → W.heap[g]? = some (.cells cells 9 (0, 0)) → ok g) (hok2 : ∀ g cells, n1 ≤ g → W.heap[g]? = some (.cells cells 35 (0, 0)) → ok g) : Kd.FK k25 W ok x cs := by
  obtain ⟨v, inner, rfl, h2, h3⟩ := h
  intro W' hW'
  have mv : ∀ g cells e, ok g → W.heap[g]? = some (.cells cells e (0, 0)) → W'.heap[g]? = W.heap[g]? := fun g cells e hg hc => hW' g hg (blk_lt0 hc)
  have ho : W'.ownsRow n1 35 2 v x.f0.length inner := owns_move h2 (fun g cells hg hc => mv g cells _ (hok2 g cells hg hc) hc)
  have hr : Reps (DirAt n1 W') 2 x.f0 inner := ⟨h3.1, fun j p hj => DirP.at ((h3.2 j p hj).keep (Q := P) (fun g cells hg hc => ⟨hg, mv g cells _ (hok g cells (hP g hg) hc) hc⟩)) hP⟩
  have hN := dirs_N ho hr
  obtain ⟨A, c, rfl⟩ := Kd.N_slice hN
  have hR := Kd.N_reads' hN
  exact k25_mk W' x hR.2.1 hR.2.2
theorem pols_N {P : Nat → Prop} {n1 : Nat} {W : World} {v : Value} {ps : List S25} {inner : List Value} (hP : ∀ g, P g → n1 ≤ g) (ho : W.ownsRow n1 25 2 v ps.length inner) (hr : Reps (PolP P n1 W) 2 ps inner) : Kd.N k25 25 W n1 (fun k => n1 ≤ k) v ps := by
  have hb := Kd.R_base (d := Kd.raw 2) (e := 25) (w := W) (base := n1) (ok := fun _ => True) (v := v) (xs := Kd.chunks 2 ps.length inner) ⟨fun _ _ => trivial, inner, by rw [Kd.chunks_length]; exact ho, Kd.reps_raw hr (fun x c hp => hp.len)⟩
  have ht := Kd.R_typed (d := Kd.raw 2) (e := 25) (w := W) (base := n1) (ok := fun _ => True) (v := v) (xs := Kd.chunks 2 ps.length inner) ⟨fun _ _ => trivial, inner, by rw [Kd.chunks_length]; exact ho, Kd.reps_raw hr (fun x c hp => hp.len)⟩
  refine ⟨hb, Kd.chunks 2 ps.length inner, Kd.chunks_length _ _ _, ⟨fun k hk => hk.symm, inner, by rw [Kd.chunks_length]; exact ho, Kd.reps_raw hr (fun x c hp => hp.len)⟩, fun j x c hx hc => ?_⟩
  rw [Kd.chunks_get hc]
  refine (hr.2 j x hx).fk hP (fun g cells hn hg => ⟨hn, fun e => ?_⟩) (fun g cells hn hg => ⟨hn, fun e => ?_⟩)
  all_goals
    obtain ⟨cells', h'⟩ := ht g e.symm
    rw [hg] at h'
    cases h'
/-- what stands between two rounds: B0, the iterator's text, is none of what is led to -/
def StH (rep : Bool) (w : World) (B0 : Nat) (ps : List S25) (W : World) : Prop :=
  ∃ (v : Value) (inner : List Value), W.heap[w.heap.size + 3]? = some (.cells #[v] 54 (0, 0)) ∧ W.ownsRow (w.heap.size + 4) 25 2 v ps.length inner ∧ Reps (PolP (fun g => w.heap.size + 4 ≤ g ∧ g ≠ B0) (w.heap.size + 4) W) 2 ps inner ∧
    W.heap[w.heap.size]? = some (.cells #[.bool rep] 4 (0, 0)) ∧ W.heap[w.heap.size + 1]? = some (.cells #[.slice none 0 0] 54 (0, 0)) ∧ W.heap[w.heap.size + 2]? = some (.cells #[.int .i64 0] 26 (0, 0)) ∧ Below w.heap.size w W ∧ w.heap.size + 4 ≤ W.heap.size
theorem StH.move {rep : Bool} {w A C : World} {B0 B1 : Nat} {ps : List S25} (h : StH rep w B0 ps A) (hs : A.heap.size ≤ C.heap.size) (hb : Below w.heap.size w A → Below w.heap.size w C)
    (hk : ∀ (k : Nat) (c : Array Value) (e : TypeId), e ≠ 9 → A.heap[k]? = some (.cells c e (0, 0)) → C.heap[k]? = A.heap[k]?)
    (hks : ∀ (k : Nat) (c : Array Value), w.heap.size + 4 ≤ k → k ≠ B0 → A.heap[k]? = some (.cells c 9 (0, 0)) → k ≠ B1 ∧ C.heap[k]? = A.heap[k]?) : StH rep w B1 ps C := by
  obtain ⟨v, inner, h1, h2, h3, h4, h5, h6, h7, h8⟩ := h
  exact ⟨v, inner, (hk _ _ _ (by decide) h1).trans h1, owns_move h2 (fun g cells _ hc => hk g cells _ (by decide) hc),
    ⟨h3.1, fun j p hj => (h3.2 j p hj).keep (fun g cells hg hc => ⟨⟨hg.1, (hks g cells hg.1 hg.2 hc).1⟩, (hks g cells hg.1 hg.2 hc).2⟩) (fun g cells _ hc => hk g cells _ (by decide) hc)⟩,
    (hk _ _ _ (by decide) h4).trans h4, (hk _ _ _ (by decide) h5).trans h5, (hk _ _ _ (by decide) h6).trans h6, hb h7, Nat.le_trans h8 hs⟩
theorem StH.below {rep : Bool} {w A C : World} {B0 : Nat} {ps : List S25} (h : StH rep w B0 ps A) (hb : Below A.heap.size A C) : StH rep w B0 ps C := by
  refine h.move hb.size (fun h7 => h7.trans (hb.mono h7.size)) (fun k c e _ hc => hb.block k (blk_lt0 hc)) (fun k c _ hk hc => ⟨hk, hb.block k (blk_lt0 hc)⟩)
theorem StH.grown {rep : Bool} {w A C : World} {B0 : Nat} {ps : List S25} {row : Option Nat} (h : StH rep w B0 ps A) (hB : ∃ c f, A.heap[B0]? = some (.cells c 9 f)) (hB4 : w.heap.size ≤ B0) (hg : A.grownBy C row)
    (hr : ∀ r, row = some r → r = B0 ∨ (w.heap.size ≤ r ∧ ∃ o : Obj, A.heap[r]? = some o ∧ o.isCells = false)) : StH rep w B0 ps C := by
  refine h.move hg.size (fun h7 => h7.grown hg (by have := h7.size; omega) (fun k e' => by rcases hr k e' with e1 | ⟨hle, _⟩ <;> omega)) (fun k c e he hc => hg.block k (blk_lt0 hc) (fun e' => ?_)) (fun k c _ hk hc => ⟨hk, hg.block k (blk_lt0 hc) (fun e' => ?_)⟩)
  · rcases hr k e'.symm with rfl | ⟨_, o, ho, hno⟩
    · obtain ⟨c', f', hB⟩ := hB
      rw [hc] at hB
      injection hB with hB
      injection hB with _ hB
      exact he hB
    · rw [hc] at ho; cases ho; cases hno
  · rcases hr k e'.symm with rfl | ⟨_, o, ho, hno⟩
    · exact hk rfl
    · rw [hc] at ho; cases ho; cases hno
/-- the marks on the deferred calls of loops that are over: nothing is left of them at the return -/
theorem leaves_marks {F : Fence} {n : Nat} {P : Program} {fn : Func} {tmps : Array Value} {R : Ending → World → Prop} {St : World → Prop} {b : Nat}
    (hst : ∀ (A : World) (D : Nat) (o' : Obj), St A → b ≤ D → A.heap[D]? = some (.deferred (some [])) → St (A.putObj D o')) (hend : ∀ A, St A → LeavesInM F n P fn tmps R [] .returning A) :
    ∀ (Ds : List Nat) (A : World), St A → Ds.Nodup → (∀ D ∈ Ds, b ≤ D ∧ A.heap[D]? = some (.deferred (some []))) → LeavesInM F n P fn tmps R (Ds.map fun D => ({ target := .collected D, args := #[] } : Deferred)) .returning A
  | [], A, h, _, _ => hend A h
  | D :: Ds, A, h, hn, hD => by
    refine ⟨by simp, .inl ⟨_, _, rfl, run_takeDeferred (hD D (by simp)).2, ?_⟩⟩
    refine leaves_marks hst hend Ds _ (hst A D _ h (hD D (by simp)).1 (hD D (by simp)).2) (List.nodup_cons.1 hn).2 (fun E hE => ⟨(hD E (by simp [hE])).1, ?_⟩)
    refine (World.putObj_heap_other (fun e => ?_)).trans (hD E (by simp [hE])).2
    subst e
    exact (List.nodup_cons.1 hn).1 hE
theorem results_ci {P : Program} {fn : Func} {p p' : Tmp} {ty ty' : TypeId} (h : fn.results = #[.cell p ty, .cell p' ty']) (tmps : Array Value) (w : World) (g g' : Nat) (t t' : TypeId) (y x : Value) (fr fr' : Nat × Nat) (el : TypeId) (kd : IntKind)
    (hp : tmps.getD p undef = .pointer (some ⟨g, 0, none⟩)) (hg : w.heap[g]? = some (.cells #[y] t fr)) (hu : P.underlying ty = some (.slice el))
    (hp' : tmps.getD p' undef = .pointer (some ⟨g', 0, none⟩)) (hg' : w.heap[g']? = some (.cells #[x] t' fr'))
    (hu' : P.underlying ty' = some (.int kd)) :
    (results fn tmps).run P w = .ok (.tuple #[y, x]) w := by
  have h1 : tmps[p]?.getD undef = .pointer (some ⟨g, 0, none⟩) := by simpa using hp
  have h2 : tmps[p']?.getD undef = .pointer (some ⟨g', 0, none⟩) := by simpa using hp'
  have c1 : w.cell? ⟨g, 0, none⟩ = some y := by rw [Lib.cell_of_heap hg]; rfl
  have c2 : w.cell? ⟨g', 0, none⟩ = some x := by rw [Lib.cell_of_heap hg']; rfl
  have hA : ∀ w, (isAgg ty).run P w = .ok false w := run_isAgg_plain hu rfl
  have hA' : ∀ w, (isAgg ty').run P w = .ok false w := run_isAgg_plain hu' rfl
  have hL : (loadVar ty ⟨g, 0, none⟩).run P w = .ok y w := by
    unfold loadVar
    simp [hA, c1, go_sem]
  have hL' : (loadVar ty' ⟨g', 0, none⟩).run P w = .ok x w := by
    unfold loadVar
    simp [hA', c2, go_sem]
  simp [results, h, h1, h2, asAddr, hL, hL']
end Go.Proofs.YtnndgmbflkdhkaaGreatDoor.Q
