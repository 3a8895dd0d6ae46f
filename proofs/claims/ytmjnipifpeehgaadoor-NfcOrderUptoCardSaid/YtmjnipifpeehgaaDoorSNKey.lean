/- The map of tables.Check: how many pairs lead to two runes; what the machine's steps on it do. -/
import Derived.Test.YtmjnipifpeehgaaDoorSNRtPair
import Derived.Maps.Keyed
import Derived.DeepKeys4
import Derived.Laws.IdiomRangeMap
set_option linter.unusedSimpArgs false
set_option linter.unusedVariables false
namespace Go.Proofs.YtmjnipifpeehgaaDoor.Q
open Go.RowKit Go.Proofs.YtmjnipifpeehgaaDoorW.PrintWords Go.Proofs.YtmjnipifpeehgaaDoorW.PrintLast Go.Proofs.YtmjnipifpeehgaaDoorW.PrintMore Go.Maps Go.MapKept
open Go.ChangeMaps (setBlock)
theorem lawK : Keyed Tryd.prog 80 := Keyed.of_law (deep_law_laid (by kernel_rfl) (m := 3) (by omega) (of_decide_eq_true (by kernel_rfl)) (by kernel_rfl) (by kernel_rfl))
def keyV (a b : Int) : Value := .agg #[.int .i32 a, .int .i32 b]
def wf32 (a : Int) : Bool := (Lit.int .i32 a).wf
theorem und21 : Tryd.prog.underlying 21 = some (.int .i32) := by kernel_rfl
theorem key_some (a b : Int) (ha : wf32 a = true) (hb : wf32 b = true) : ∃ l, keyOf Tryd.prog 80 (keyV a b) = some l := by
  have h0 : Tryd.prog.keyType 80 = true := by kernel_rfl
  have h1 : Tryd.prog.underlying 80 = some (.struct #[{ name := "a", type := 21, offset := 0, embedded := false, tag := "", pkgPath := "bastion/tables", byteOffset := 0 }, { name := "b", type := 21, offset := 1, embedded := false, tag := "", pkgPath := "bastion/tables", byteOffset := 4 }]) := by kernel_rfl
  have h2 : Tryd.prog.cellsOf 80 = 2 := by kernel_rfl
  have h3 : Tryd.prog.cellsOf 21 = 1 := by kernel_rfl
  have ka : ∀ d x, wf32 x = true → Tryd.prog.keyLits (d + 1) 21 [.int .i32 x] = some [.int .i32 x] := fun d x hx => by
    (simp only [Program.keyLits, und21]); (exact if_pos ⟨trivial, hx⟩)
  have hf : (keyV a b).formed Tryd.prog 80 = true := by simp [keyV, Value.formed, h1, h2]
  have hl : Tryd.prog.keyLits (Tryd.prog.types.size + 1) 80 (keyV a b).cells.toList = some [.int .i32 a, .int .i32 b] := by
    (obtain ⟨N, hN⟩ : ∃ N, N = Tryd.prog.types.size := ⟨_, rfl⟩); (have hpos : 0 < N := by rw [hN]; exact of_decide_eq_true (by kernel_rfl)); (rw [← hN])
    cases N with
    | zero => exact absurd hpos (Nat.lt_irrefl 0)
    | succ d =>
      (have e : (keyV a b).cells.toList = [.int .i32 a, .int .i32 b] := rfl); (rw [e]); (unfold Program.keyLits); (rw [h1]); (simp [h2, h3, ka d a ha, ka d b hb])
  unfold keyOf
  rw [h1]
  simp only [h0, hf, Bool.and_self, if_true]
  rw [hl]
  exact ⟨_, rfl⟩
/-- how many pairs lead to two runes -/
def cntP (d : List S45) (a b : Int) : Nat := d.countP (fun y => !y.f3 && (y.f1 == a && y.f2 == b))
def MapI (B : Nat) (W : World) (d : List S45) : Prop :=
  ∃ es clock, W.heap[B]? = some (.map es clock) ∧ Stamped es clock ∧ (∀ e ∈ es.toList, ∃ a b, e.key = keyV a b ∧ wf32 a = true ∧ wf32 b = true ∧ e.val = .int .i64 (cntP d a b) ∧ 0 < cntP d a b) ∧ ∀ a b, 0 < cntP d a b → ∃ e ∈ es.toList, e.key = keyV a b
theorem keyV_inj {a b a' b' : Int} (h : keyV a b = keyV a' b') : a = a' ∧ b = b' := by
  unfold keyV at h
  simp at h
  exact h
theorem cntP_snoc (d : List S45) (x : S45) (a b : Int) : cntP (d ++ [x]) a b = cntP d a b + if !x.f3 && (x.f1 == a && x.f2 == b) then 1 else 0 := by
  unfold cntP
  rw [List.countP_append, List.countP_cons, List.countP_nil]
  simp
theorem MapI.one {B : Nat} {W : World} {d : List S45} (h : MapI B W d) (x : S45) (hx : x.f3 = true) : MapI B W (d ++ [x]) := by
  have e : ∀ a b, cntP (d ++ [x]) a b = cntP d a b := fun a b => by rw [cntP_snoc, hx]; simp
  obtain ⟨es, clock, h1, h2, h3, h4⟩ := h
  exact ⟨es, clock, h1, h2, fun y hy => by obtain ⟨a, b, k1, k2, k3, k4, k5⟩ := h3 y hy; exact ⟨a, b, k1, k2, k3, by rw [e]; exact k4, by rw [e]; exact k5⟩, fun a b hab => h4 a b (by rw [e] at hab; exact hab)⟩
theorem MapI.below {B : Nat} {W W' : World} {d : List S45} (h : MapI B W d) (hb : Below W.heap.size W W') : MapI B W' d := by
  obtain ⟨es, clock, h1, h2⟩ := h
  exact ⟨es, clock, (hb.block B (Array.getElem?_eq_some_iff.1 h1).1).trans h1, h2⟩
theorem findIdx_born (es : Array MapEntry) (hn : (es.toList.map (·.born)).Nodup) (i : Nat) (e : MapEntry) (h : es[i]? = some e) : es.findIdx? (fun y => (y.born : Int) == (e.born : Int)) = some i := by
  obtain ⟨hi, he⟩ := Array.getElem?_eq_some_iff.1 h
  rw [Array.findIdx?_eq_some_iff_getElem]
  refine ⟨hi, by rw [he]; simp, fun j hj hh => ?_⟩
  have hb : es[j].born = e.born := by have := beq_iff_eq.1 hh; omega
  have hjl : j < (es.toList.map (·.born)).length := by simp; omega
  have hil : i < (es.toList.map (·.born)).length := by simp; omega
  have := (List.getElem_inj (i := j) (j := i) (h₀ := hjl) (h₁ := hil) hn).1 (by simp [he, hb])
  omega
/-- an entry that stands there: asked, and set -/
theorem entry_at {B : Nat} {W : World} {es : Array MapEntry} {clock : Nat} (h1 : W.heap[B]? = some (.map es clock)) (hst : Stamped es clock) (hks : ∀ e ∈ es.toList, ∃ a b, e.key = keyV a b ∧ wf32 a = true ∧ wf32 b = true) {i : Nat} {e : MapEntry} {a b : Int} (hi : es[i]? = some e) (hk : e.key = keyV a b) (ha : wf32 a = true) (hb : wf32 b = true) (v : Value) :
    (Instr.lookup 67 (.map (some B)) (keyV a b) false).run Tryd.prog W = .ok e.val W ∧
    (Instr.entryStore 67 (.map (some B)) (.int .i64 (e.born : Int)) v).run Tryd.prog W = .ok () (setBlock W B (.map (es.modify i fun e => { e with val := v }) clock)) := by
  obtain ⟨kl, hkl⟩ := key_some a b ha hb
  have ht : Tryd.prog.underlying 67 = some (.map 80 3) := by kernel_rfl
  have hks' : ∀ e ∈ es.toList, ∃ l, keyOf Tryd.prog 80 e.key = some l := fun y hy => by
    (obtain ⟨a', b', k1, k2, k3⟩ := hks y hy); (rw [k1]; exact key_some a' b' k2 k3)
  have hem : e ∈ es.toList := List.mem_of_getElem? (i := i) (by simpa using hi)
  refine ⟨?_, ?_⟩
  · rcases lawK.find W hkl es.toList hks' with ⟨h5, h6⟩ | ⟨j, e0, h5, h6, h7⟩
    · exact absurd hk (h6 e hem)
    · have he0 : e0 = e := by
        (obtain ⟨hj, hje⟩ := List.getElem?_eq_some_iff.1 h6); (obtain ⟨hi', hie⟩ := List.getElem?_eq_some_iff.1 (show es.toList[i]? = some e by simpa using hi)); (have := (List.getElem_inj (i := j) (j := i) (h₀ := by simpa using hj) (h₁ := by simpa using hi') hst.2.2).1 (by simp only [List.getElem_map, hje, hie, h7, hk])); (subst this); (rw [← hje, ← hie])
      (subst he0); (simp [Instr.lookup, run_underlying ht, MapKept.run_getObj_map h1, lawK.check W _ hkl, h5, Result.andThen])
  · simp [Instr.entryStore, MapKept.run_getObj_map h1, asInt, asIntOf, findIdx_born es hst.2.1 i e hi, MapKept.run_setObj_map _ h1, Result.andThen, setBlock]
theorem grown_setBlock {W : World} {B : Nat} {es es' : Array MapEntry} {clock clock' : Nat} (h1 : W.heap[B]? = some (.map es clock)) : W.grownBy (setBlock W B (.map es' clock')) (some B) :=
  ⟨rfl, rfl, rfl, by simp [setBlock], fun i _ hi => ChangeMaps.heap_setBlock_other h1 _ (fun e => hi (by rw [e]))⟩
set_option maxHeartbeats 1000000 in
/-- seen[..]++ -/
theorem MapI.bump {B : Nat} {W : World} {d : List S45} (h : MapI B W d) (x : S45) (hx : x.f3 = false) (ha : wf32 x.f1 = true) (hb : wf32 x.f2 = true) :
    ∃ (st : Int) (W1 W2 : World), (Instr.lookup 67 (.map (some B)) (keyV x.f1 x.f2) false).run Tryd.prog W = .ok (.int .i64 (cntP d x.f1 x.f2)) W ∧
      (Instr.mapEntry 67 (.map (some B)) (keyV x.f1 x.f2)).run Tryd.prog W = .ok (.tuple #[.int .i64 (cntP d x.f1 x.f2), .int .i64 st]) W1 ∧
      (Instr.lookup 67 (.map (some B)) (keyV x.f1 x.f2) false).run Tryd.prog W1 = .ok (.int .i64 (cntP d x.f1 x.f2)) W1 ∧
      (Instr.entryStore 67 (.map (some B)) (.int .i64 st) (.int .i64 ((cntP d x.f1 x.f2 : Int) + 1))).run Tryd.prog W1 = .ok () W2 ∧
      W.grownBy W1 (some B) ∧ W.grownBy W2 (some B) ∧ MapI B W2 (d ++ [x]) := by
  obtain ⟨es, clock, h1, hst, h3, h4⟩ := h
  obtain ⟨kl, hkl⟩ := key_some x.f1 x.f2 ha hb
  have ht : Tryd.prog.underlying 67 = some (.map 80 3) := by kernel_rfl
  have hz : (zeroValue 3).run Tryd.prog W = .ok (.int .i64 0) W := by kernel_rfl
  have hks : ∀ e ∈ es.toList, ∃ a b, e.key = keyV a b ∧ wf32 a = true ∧ wf32 b = true := fun y hy => by
    (obtain ⟨a', b', k1, k2, k3, _⟩ := h3 y hy); (exact ⟨a', b', k1, k2, k3⟩)
  have hks' : ∀ e ∈ es.toList, ∃ l, keyOf Tryd.prog 80 e.key = some l := fun y hy => by
    (obtain ⟨a', b', k1, k2, k3⟩ := hks y hy); (rw [k1]; exact key_some a' b' k2 k3)
  -- what stands behind the entry
  have close : ∀ (es1 : Array MapEntry) (clock1 i : Nat) (e1 : MapEntry) (W1 : World), W.grownBy W1 (some B) → W1.heap[B]? = some (.map es1 clock1) → Stamped es1 clock1 → es1[i]? = some e1 → e1.key = keyV x.f1 x.f2 → e1.val = .int .i64 (cntP d x.f1 x.f2) →
      (∀ k e, es1[k]? = some e → k ≠ i → e ∈ es.toList ∧ e.key ≠ keyV x.f1 x.f2) → (∀ e ∈ es.toList, e.key ≠ keyV x.f1 x.f2 → ∃ k, k ≠ i ∧ es1[k]? = some e) →
      (Instr.mapEntry 67 (.map (some B)) (keyV x.f1 x.f2)).run Tryd.prog W = .ok (.tuple #[.int .i64 (cntP d x.f1 x.f2), .int .i64 (e1.born : Int)]) W1 →
      (Instr.lookup 67 (.map (some B)) (keyV x.f1 x.f2) false).run Tryd.prog W = .ok (.int .i64 (cntP d x.f1 x.f2)) W →
      ∃ (st : Int) (W1 W2 : World), (Instr.lookup 67 (.map (some B)) (keyV x.f1 x.f2) false).run Tryd.prog W = .ok (.int .i64 (cntP d x.f1 x.f2)) W ∧
      (Instr.mapEntry 67 (.map (some B)) (keyV x.f1 x.f2)).run Tryd.prog W = .ok (.tuple #[.int .i64 (cntP d x.f1 x.f2), .int .i64 st]) W1 ∧
      (Instr.lookup 67 (.map (some B)) (keyV x.f1 x.f2) false).run Tryd.prog W1 = .ok (.int .i64 (cntP d x.f1 x.f2)) W1 ∧
      (Instr.entryStore 67 (.map (some B)) (.int .i64 st) (.int .i64 ((cntP d x.f1 x.f2 : Int) + 1))).run Tryd.prog W1 = .ok () W2 ∧
      W.grownBy W1 (some B) ∧ W.grownBy W2 (some B) ∧ MapI B W2 (d ++ [x]) := by
    intro es1 clock1 i e1 W1 hg1 hW1 hst1 hi hk hv hO hP hent hlook
    have hks1 : ∀ e ∈ es1.toList, ∃ a b, e.key = keyV a b ∧ wf32 a = true ∧ wf32 b = true := fun y hy => by
      obtain ⟨k, hk1, rfl⟩ := List.mem_iff_getElem.1 hy
      by_cases e : k = i
      · subst e
        (have : es1[k]? = some es1.toList[k] := by simp at hk1; simp [hk1]); (rw [hi] at this); (rw [← Option.some.inj this]); (exact ⟨x.f1, x.f2, hk, ha, hb⟩)
      · exact hks _ (hO k _ (by simp at hk1; simp [hk1]) e).1
    (obtain ⟨q1, q2⟩ := entry_at hW1 hst1 hks1 hi hk ha hb (.int .i64 ((cntP d x.f1 x.f2 : Int) + 1))); (rw [hv] at q1)
    refine ⟨_, W1, _, hlook, hent, q1, q2, hg1, Lib.grownBy_trans hg1 (grown_setBlock hW1), ⟨_, clock1, ChangeMaps.heap_setBlock_same hW1 _, stamped_modify hst1 _ _ (fun _ _ => rfl) (fun _ _ _ => rfl), fun y hy => ?_, fun a b hab => ?_⟩⟩
    · obtain ⟨k, hk1, rfl⟩ := List.mem_iff_getElem.1 hy
      (have hkl2 : k < es1.size := by simpa using hk1); (rw [Array.getElem_toList, Array.getElem_modify])
      by_cases e : i = k
      · subst e
        (have he1 : es1[i] = e1 := by rw [Array.getElem?_eq_getElem hkl2] at hi; exact Option.some.inj hi); (rw [if_pos rfl, he1]); (refine ⟨x.f1, x.f2, hk, ha, hb, ?_, ?_⟩)
        · rw [cntP_snoc, hx]; simp
        · rw [cntP_snoc, hx]; simp
      · rw [if_neg e]
        obtain ⟨m1, m2⟩ := hO k es1[k] (Array.getElem?_eq_getElem hkl2) (fun e' => e e'.symm)
        obtain ⟨a, b, k1, k2, k3, k4, k5⟩ := h3 _ m1
        have hne : ¬ (x.f1 = a ∧ x.f2 = b) := fun ⟨e1, e2⟩ => m2 (by rw [k1, e1, e2])
        have hc : cntP (d ++ [x]) a b = cntP d a b := by
          rw [cntP_snoc, if_neg]
          · simp
          · simp only [hx, Bool.not_false, Bool.true_and, Bool.and_eq_true, beq_iff_eq]; exact hne
        exact ⟨a, b, k1, k2, k3, by rw [hc]; exact k4, by rw [hc]; exact k5⟩
    · by_cases e : x.f1 = a ∧ x.f2 = b
      · obtain ⟨rfl, rfl⟩ := e
        (obtain ⟨hil, he1⟩ := Array.getElem?_eq_some_iff.1 hi); (refine ⟨{ e1 with val := .int .i64 ((cntP d x.f1 x.f2 : Int) + 1) }, ?_, hk⟩); (rw [Array.mem_toList_iff, Array.mem_iff_getElem?]); (exact ⟨i, by rw [Array.getElem?_modify, if_pos rfl, hi]; rfl⟩)
      · have hc : cntP (d ++ [x]) a b = cntP d a b := by
          rw [cntP_snoc, if_neg]
          · simp
          · simp only [hx, Bool.not_false, Bool.true_and, Bool.and_eq_true, beq_iff_eq]; exact e
        (rw [hc] at hab); (obtain ⟨y, hy, hyk⟩ := h4 a b hab)
        obtain ⟨k, hki, hke⟩ := hP y hy (by rw [hyk]; exact fun e' => e ⟨(keyV_inj e').1.symm, (keyV_inj e').2.symm⟩)
        (refine ⟨y, ?_, hyk⟩); (rw [Array.mem_toList_iff, Array.mem_iff_getElem?])
        exact ⟨k, by rw [Array.getElem?_modify, if_neg (fun e' => hki e'.symm)]; exact hke⟩
  rcases lawK.find W hkl es.toList hks' with ⟨h5, h6⟩ | ⟨j, e0, h5, h6, h7⟩
  · have hc0 : cntP d x.f1 x.f2 = 0 := by
      rcases Nat.eq_zero_or_pos (cntP d x.f1 x.f2) with h | h
      · exact h
      · obtain ⟨y, hy, hyk⟩ := h4 _ _ h
        exact absurd hyk (h6 y hy)
    refine close (es.push ⟨keyV x.f1 x.f2, .int .i64 0, clock⟩) (clock + 1) es.size ⟨keyV x.f1 x.f2, .int .i64 0, clock⟩ (setBlock W B (.map (es.push ⟨keyV x.f1 x.f2, .int .i64 0, clock⟩) (clock + 1))) (grown_setBlock h1) (ChangeMaps.heap_setBlock_same h1 _) (stamped_push hst h6) (by simp) rfl (by rw [hc0]; rfl) (fun k e hk hne => ?_) (fun e he hne => ?_) ?_ ?_
    · have hkl2 := (Array.getElem?_eq_some_iff.1 hk).1
      (rw [Array.size_push] at hkl2); (rw [Array.getElem?_push_lt (by omega)] at hk); (have : e ∈ es.toList := by rw [← Option.some.inj hk]; simp); (exact ⟨this, h6 e this⟩)
    · obtain ⟨k, hk, rfl⟩ := List.mem_iff_getElem.1 he
      (have hk' : k < es.size := by simpa using hk); (exact ⟨k, by omega, by rw [Array.getElem?_push_lt hk']; simp⟩)
    · rw [hc0]
      simp [Instr.mapEntry, run_underlying ht, MapKept.run_getObj_map h1, lawK.check W _ hkl, h5, hz, MapKept.run_setObj_map _ h1, Result.andThen, setBlock, goInt]
    · rw [hc0]
      simp [Instr.lookup, run_underlying ht, MapKept.run_getObj_map h1, lawK.check W _ hkl, h5, hz, Result.andThen]
  · have hj : es[j]? = some e0 := by simpa using h6
    (have he0 : e0 ∈ es.toList := List.mem_of_getElem? h6); (obtain ⟨a, b, k1, k2, k3, k4, k5⟩ := h3 e0 he0); (obtain ⟨rfl, rfl⟩ : x.f1 = a ∧ x.f2 = b := by rw [h7] at k1; exact keyV_inj k1)
    have hmod : es.modify j (fun e => { e with key := keyV x.f1 x.f2 }) = es := by
      apply Array.ext_getElem?
      (intro k); (rw [Array.getElem?_modify])
      split
      · rename_i e; subst e; rw [hj]; show some { e0 with key := keyV x.f1 x.f2 } = some e0; rw [← h7]
      · rfl
    refine close es clock j e0 (setBlock W B (.map es clock)) (grown_setBlock h1) (ChangeMaps.heap_setBlock_same h1 _) hst hj h7 k4 (fun k e hk hne => ?_) (fun e he hne => ?_) ?_ ?_
    · have hm : e ∈ es.toList := List.mem_of_getElem? (i := k) (by simpa using hk)
      refine ⟨hm, fun hke => hne ?_⟩
      (obtain ⟨hk', hke'⟩ := List.getElem?_eq_some_iff.1 (show es.toList[k]? = some e by simpa using hk)); (obtain ⟨hj', hje⟩ := List.getElem?_eq_some_iff.1 h6); (exact (List.getElem_inj (i := k) (j := j) (h₀ := by simpa using hk') (h₁ := by simpa using hj') hst.2.2).1 (by simp only [List.getElem_map, hke', hje, hke, h7]))
    · obtain ⟨k, hk, rfl⟩ := List.mem_iff_getElem.1 he
      refine ⟨k, fun e => hne ?_, by simp at hk; simp [hk]⟩
      (subst e); (obtain ⟨hj', hje⟩ := List.getElem?_eq_some_iff.1 h6); (rw [hje]; exact h7)
    · simp [Instr.mapEntry, run_underlying ht, MapKept.run_getObj_map h1, lawK.check W _ hkl, h5, hj, h7, lawK.stays W hkl, MapKept.run_setObj_map _ h1, Result.andThen, setBlock, goInt, hmod, k4]
    · simp [Instr.lookup, run_underlying ht, MapKept.run_getObj_map h1, lawK.check W _ hkl, h5, Result.andThen, k4]
end Go.Proofs.YtmjnipifpeehgaaDoor.Q
