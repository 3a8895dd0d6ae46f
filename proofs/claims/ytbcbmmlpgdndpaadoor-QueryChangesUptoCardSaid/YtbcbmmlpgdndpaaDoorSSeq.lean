/- A range over a function whose body may leave the function: laws; and strings.SplitSeq at a separator of one byte. -/
import Derived.Test.YtbcbmmlpgdndpaaDoorSB2
import Derived.Test.YtbcbmmlpgdndpaaDoorSB3
import Derived.OrdersIn
import Derived.OrdersHeld
import Derived.Shelf.Strings.Search3
import Derived.Lib.IndexLaws
set_option linter.unusedSimpArgs false
set_option linter.unusedVariables false
namespace Go.Proofs.YtbcbmmlpgdndpaaDoor.R
open Go.RowKit
variable {F : Fence} {n : Nat} {P : Program}
/-- The iterator's contract where the body may leave: Jx is what a round that leaves, leaves. -/
def GivesX {α : Type} (F : Fence) (n : Nat) (P : Program) (gf : Nat) (lb : Array Value) (encs : α → Array Value) (Kp : World → World → Prop) (B0 : Nat) (T : TypeId) (xs : List α) (w : World) : Prop :=
  ∀ (l : Nat) (J : List α → World → Prop) (Jx : World → Prop) (W : World), w.heap.size ≤ l → Below w.heap.size w W →
    (∀ pre A C row, J pre A → A.grownBy C row → (∀ r, row = some r → r = B0 ∧ ∃ x, Boxed C B0 T x) → J pre C) →
    (∀ pre x W1, J pre W1 → pre ++ [x] <+: xs → YieldAt F (n - 1) P l (encs x) W1 fun e W' => (e = .returned (.bool true) ∧ J (pre ++ [x]) W' ∧ Kp W1 W') ∨ (e = .returned (.bool false) ∧ Jx W')) →
    J [] W →
    CallsIn F n P gf (#[.func (.yield l) #[] #[]] ++ lb) W fun e W' => (∃ v, e = .returned v) ∧ (J xs W' ∨ Jx W')
/-- A drawn region in a round of a range over a function, in the fence that shuts nothing out: as outside of rounds, where it defers nothing. -/
theorem wpAnyIn_of_wide {md : Region.Mode} {ops : Array Oper} {Q : Exit → Act → World → Prop} {l n : Nat} (hnd : ∀ (i : Nat) (o : Oper), ops[i]? = some o → ∀ c, o.op ≠ .defer c) (hout : LetsOut Q → False) :
    ∀ (fuel : Nat) (listed : Array Bool) (a : Act) (w : World), wpAny P md ops Q fuel listed a w → wpAnyIn (Fence.wide.inRound l) n P md ops Q fuel listed a w
  | 0, _, _, _, h => h
  | fuel + 1, listed, a, w, h => ⟨h.1, fun i hi => by
      have h1 := h.2 i hi
      unfold wpOp at h1
      unfold wpOpIn
      cases ho : ops[i]? with
      | none => simp only [ho] at h1 ⊢; exact wpAnyIn_of_wide hnd hout fuel _ _ _ h1
      | some o =>
        simp only [ho] at h1 ⊢
        split
        · rename_i hw
          simp only [hw, if_true] at h1
          rcases h1 with h1 | h1
          · refine ⟨fun _ _ => trivial, ?_⟩
            rw [show (Fence.wide.inRound l).round = some l from rfl, Oper.semAt_some l _ _ (hnd i o ho)]
            unfold Oper.wp at h1
            generalize (execOp a.eval o).run P w = r at h1 ⊢
            cases r with
            | ok x w' =>
              cases x <;> simp only [Oper.upon, Oper.uponIn] at h1 ⊢
              case value u => exact wpAnyIn_of_wide hnd hout fuel _ _ _ h1
              case skip => exact wpAnyIn_of_wide hnd hout fuel _ _ _ h1
              case defer d => exact wpAnyIn_of_wide hnd hout fuel _ _ _ h1
              case enter f args =>
                refine ⟨fun h => (by cases h), (callsIn_wide.2 (h1.mono ?_)).inRound l⟩
                intro e w2 he
                cases e with
                | returned u => exact wpAnyIn_of_wide hnd hout fuel _ _ _ he
                | panicked c => exact he
                | outgrown => exact he
              case row row args =>
                refine ⟨fun h => (by cases h), fun c cs _ => ?_⟩
                obtain ⟨v, w2, r, s⟩ := h1 c cs
                exact ⟨v, w2, wpAnyIn_of_wide hnd hout fuel _ _ _ r, stepsIn_wide.2 s⟩
            | halt x w' => cases x <;> simp only [Oper.upon, Oper.uponIn] at h1 ⊢ <;> exact h1
          · exact (hout h1.2).elim
        · rename_i hw
          simp only [hw] at h1
          exact ⟨fun _ _ => trivial, wpAnyIn_of_wide hnd hout fuel _ _ _ h1⟩⟩
theorem range_stop {α : Type} {g : Operand} {ps : Array Tmp} {assign body : Code} {Q : Exit → Act → World → Prop} {a : Act} {w : World}
    (hro : F.round = none) (h1 : 1 ≤ n) {gf : Nat} {lb : Array Value} (hg : a.eval g = .func (.func gf) #[] lb) (hFg : F.fn gf) (eg : ∀ args w, (callFunc gf args).run P w = .ok (.enter gf args) w)
    {encs : α → Array Value} {Kp : World → World → Prop} (B0 : Nat) {T : TypeId} (hB0 : B0 < w.heap.size) {xs : List α} (hseq : GivesX F (n - 1) P gf lb encs Kp B0 T xs w)
    (hKt : ∀ {A B C : World}, Kp A B → Kp B C → Kp A C) (hKb : ∀ (W : World) (l : Nat) (o o' : Obj), w.heap.size ≤ l → W.heap[l]? = some o → o.isCells = false → Kp W (W.putObj l o')) (hps : ∀ x, (encs x).size = ps.size)
    (I : List α → World → Prop) (Ix : World → Prop) (hI : Stable w.heap.size B0 T I) (hIx : ∀ (A : World) (l : Nat) (o o' : Obj), Ix A → w.heap.size ≤ l → A.heap[l]? = some o → o.isCells = false → Ix (A.putObj l o')) (h0 : I [] w) (a₁ : α → Act)
    (hassign : ∀ (l : Nat) (x : α) (W : World) (K : Act → World → Prop), K (a₁ x) W →
      assign.wpIn (F.inRound l) (n - 1 - 1) P (Exit.then K (fun _ _ _ => False)) { tmps := (ps.zip (encs x)).foldl (fun t (p, v) => t.setIfInBounds p v) a.tmps, defers := [] } W)
    (hbody : ∀ (l : Nat) (pre : List α) (x : α) (W : World), I pre W → pre ++ [x] <+: xs → body.wpIn (F.inRound l) (n - 1 - 1) P (ownPostG w.heap.size Kp I (fun c _ W => c = .ret ∧ Ix W) (pre ++ [x]) W) (a₁ x) W)
    (hstop : ∀ (D : Nat) (W : World), w.heap.size ≤ D → Ix W → W.heap[D]? = some (.deferred (some [])) → Code.ret.wpIn F n P Q { a with defers := { target := .collected D, args := #[] } :: a.defers } W)
    (hdone : ∀ (D : Nat) (W : World), w.heap.size ≤ D → I xs W → W.heap[D]? = some (.deferred (some [])) → Q .normal { a with defers := { target := .collected D, args := #[] } :: a.defers } W) :
    (Code.rangeFunc g ps assign body).wpIn F n P Q a w := by
  refine wpIn_rangeFunc ?_
  intro fn hfn
  rw [hro]
  obtain ⟨rec, hrec⟩ : ∃ rec : LoopState → Option Code → Loop, rec = fun st pe => { state := st, pending := pe, fn, tmps := a.tmps, params := ps, assign, body, defers := w.heap.size } := ⟨_, rfl⟩
  obtain ⟨W1, hW1⟩ : ∃ W1, (w.alloc (.deferred (some []))).alloc (.loop (rec .ready none)) = W1 := ⟨_, rfl⟩
  have hL1 : W1.heap[w.heap.size + 1]? = some (.loop (rec .ready none)) := by
    rw [← hW1]; have := World.alloc_heap_new (w.alloc (.deferred (some []))) (.loop (rec .ready none)); rwa [World.size_alloc] at this
  have hK1 : W1.heap[w.heap.size]? = some (.deferred (some [])) := by
    rw [← hW1]; exact (Below.heap_alloc _ _ _ (by simp)).trans (World.alloc_heap_new w _)
  have inew : ∀ (pre : List α) (A : World) (o : Obj), I pre A → I pre (A.alloc o) := fun pre A o h => hI pre A _ none h (World.grownBy_alloc A o none) (fun r e => by cases e)
  have iput : ∀ (pre : List α) (A : World) (l : Nat) (o o' : Obj), I pre A → w.heap.size ≤ l → A.heap[l]? = some o → o.isCells = false → I pre (A.putObj l o') :=
    fun pre A l o o' h hl ho hc => hI pre A _ (some l) h (grownBy_putObj' A l o') (fun r e => by cases e; exact .inr ⟨hl, o, ho, hc⟩)
  have hI1 : I [] W1 := by rw [← hW1]; exact inew _ _ _ (inew _ _ _ h0)
  have hb1 : Below w.heap.size w W1 := by rw [← hW1]; exact ((Below.refl _ w).alloc (Nat.le_refl _) _).alloc (by simp) _
  refine ⟨w.heap.size + 1, [{ target := .collected w.heap.size, args := #[] }], W1, { target := .fn (.func gf) lb, args := #[.func (.yield (w.heap.size + 1)) #[] #[]] }, W1, gf,
    #[.func (.yield (w.heap.size + 1)) #[] #[]] ++ lb, W1, ?_, ?_, ?_, ?_, fun _ => h1, ?_⟩
  · rw [← hW1, hrec]; exact run_enterLoop_outer _ _ _ _ _
  · simp only [resolve, hg]
    simp [go_sem]
  · intro f' hf'; simp [Target.leads] at hf'; subst hf'; exact hFg
  · simp [invoke, go_sem, eg]
  · refine (hseq (w.heap.size + 1)
      (fun pre W => I pre W ∧ W.heap[w.heap.size + 1]? = some (.loop (rec .ready none)) ∧ W.heap[w.heap.size]? = some (.deferred (some [])))
      (fun W => Ix W ∧ W.heap[w.heap.size + 1]? = some (.loop (rec .done (some .ret))) ∧ W.heap[w.heap.size]? = some (.deferred (some [])))
      W1 (by omega) hb1
      (fun pre A C row hs hg' hr => by
        have keep : ∀ (k : Nat) (o : Obj), w.heap.size ≤ k → A.heap[k]? = some o → C.heap[k]? = some o := fun k o hk ho =>
          (hg'.block k (Array.getElem?_eq_some_iff.1 ho).1 (fun e => by have := (hr k e.symm).1; omega)).trans ho
        exact ⟨hI pre A C row hs.1 hg' (fun r e => .inl (hr r e)), keep _ _ (by omega) hs.2.1, keep _ _ (Nat.le_refl _) hs.2.2⟩)
      ?_ ⟨hI1, hL1, hK1⟩).mono ?_
    · rintro pre x W ⟨hi, hl, hk⟩ hpre
      have hlt : w.heap.size + 1 < W.heap.size := (Array.getElem?_eq_some_iff.1 hl).1
      have hy := run_yield (P := P) (args := encs x) hl (by rw [hrec]; exact hps x)
      rw [hrec] at hy
      refine ⟨fn, _, assign, body, hy, roundIn_of_wpIn hfn (hassign _ x W _ ⟨_, run_beginRound hl (by rw [hrec]), ?_⟩)⟩
      have hl2 : (W.putObj (w.heap.size + 1) (.loop { rec .ready none with state := .busy })).heap[w.heap.size + 1]? = some (.loop { rec .ready none with state := .busy }) := World.putObj_heap_same hlt
      have hk2 : (W.putObj (w.heap.size + 1) (.loop { rec .ready none with state := .busy })).heap[w.heap.size]? = some (.deferred (some [])) := (World.putObj_heap_other (by omega)).trans hk
      have hw2 : Kp W (W.putObj (w.heap.size + 1) (.loop { rec .ready none with state := .busy })) := hKb _ _ _ _ (by omega) hl rfl
      refine wpIn_mono (hbody _ pre x _ (iput _ _ _ _ _ hi (by omega) hl rfl) hpre) ?_
      rintro e a3 W3 hp
      cases e with
      | normal =>
        obtain ⟨hk3, hkp3, hi3⟩ := hp
        have hl3 := hk3.same _ _ (by omega) hl2 rfl
        have hr := run_endRound (P := P) none hl3
        rw [hrec] at hr
        have hl3' := hl3
        rw [hrec] at hl3'
        refine ⟨_, _, hr, .inl ⟨rfl, ⟨iput _ _ _ _ _ hi3 (by omega) hl3' rfl, ?_, ?_⟩, hKt (hKt hw2 hkp3) (hKb _ _ _ _ (by omega) hl3' rfl)⟩⟩
        · rw [hrec]; exact World.putObj_heap_same (Array.getElem?_eq_some_iff.1 hl3).1
        · exact (World.putObj_heap_other (by omega)).trans (hk3.same _ _ (Nat.le_refl _) hk2 rfl)
      | ret =>
        obtain ⟨hk3, _, hi3⟩ := hp
        have hl3 := hk3.same _ _ (by omega) hl2 rfl
        have hr := run_endRound (P := P) (some .ret) hl3
        rw [hrec] at hr
        have hl3' := hl3
        rw [hrec] at hl3'
        refine ⟨_, _, hr, .inr ⟨rfl, hIx _ _ _ _ hi3 (by omega) hl3' rfl, ?_, ?_⟩⟩
        · rw [hrec]; exact World.putObj_heap_same (Array.getElem?_eq_some_iff.1 hl3).1
        · exact (World.putObj_heap_other (by omega)).trans (hk3.same _ _ (Nat.le_refl _) hk2 rfl)
      | exit id => exact absurd hp.2.1 (by simp)
      | goto t => exact absurd hp.2.1 (by simp)
      | panic ch => exact hp.elim
      | outgrown => exact hp.elim
    · rintro e W2 ⟨⟨v, rfl⟩, (⟨hi, hl, hk⟩ | ⟨hi, hl, hk⟩)⟩
      · exact ⟨none, _, by have := run_endLoop (P := P) hl (by rw [hrec]; simp); rw [hrec] at this; exact this, hdone _ _ (Nat.le_refl _) (iput _ _ _ _ _ hi (by omega) hl rfl) ((World.putObj_heap_other (by omega)).trans hk)⟩
      · exact ⟨some .ret, _, by have := run_endLoop (P := P) hl (by rw [hrec]; simp); rw [hrec] at this; exact this, hstop _ _ (Nat.le_refl _) (hIx _ _ _ _ hi (by omega) hl rfl) ((World.putObj_heap_other (by omega)).trans hk)⟩
theorem wpIn_round_any {ops : Array Oper} {Q : Exit → Act → World → Prop} {l n id : Nat} {a : Act} {w : World} (hnd : ops.all (fun o => match o.op with | .defer _ => false | _ => true) = true) (hout : LetsOut Q → False) (hm : P.follows .mixedOrders = true)
    (h : (w' : World) → w' = w.drew → wpAny P .any ops Q ops.size (Array.replicate ops.size false) a w') : (Code.region id ops true).wpIn (Fence.wide.inRound l) n P Q a w :=
  wpIn_region_any hm (wpAnyIn_of_wide (fun i o ho c e => by
    have hlt := (Array.getElem?_eq_some_iff.1 ho)
    have := Array.all_eq_true.1 hnd i hlt.1
    rw [hlt.2, e] at this
    cases this) hout _ _ _ _ (h _ rfl))
end Go.Proofs.YtbcbmmlpgdndpaaDoor.R
