/- A range over a function whose iterator keeps its state in one captured variable (block B0): a law for loops that run to their end. -/
/- csp on lists of bytes: letters, spans, schemes, small letters. -/
import Derived.RangeFuncNested
import Derived.RangeFuncBox
import Derived.RangeFuncLeaves
import Derived.WalkKit
import Derived.OwnWalkIn
import Derived.TacticsInMore
import Derived.LoopNIn
import Derived.LoopIn
import Derived.Maps.AppendAt
import Derived.Test.YtnndgmbflkdhkaaGreatDoorSPort
import Derived.Test.YtnndgmbflkdhkaaGreatDoorSB3
import Derived.Test.YtnndgmbflkdhkaaGreatDoorSQcsp1
import Derived.Test.YtnndgmbflkdhkaaGreatDoorSB6
import Derived.Test.YtnndgmbflkdhkaaGreatDoorSB2
import Derived.Lib.IndexAny
section
set_option linter.unusedSimpArgs false
set_option linter.unusedVariables false
namespace Go.Proofs.YtnndgmbflkdhkaaGreatDoor.R
open Go.RowKit
variable {F : Fence} {n : Nat} {P : Program}

/-- What an invariant of the loop must abide: new blocks, a turn of the iterator's own variable, a turn of the loop's own book-keeping. -/
def Stable {α : Type} (B B0 : Nat) (T : TypeId) (I : List α → World → Prop) : Prop :=
  ∀ pre A C row, I pre A → A.grownBy C row → (∀ r, row = some r → (r = B0 ∧ ∃ x, Boxed C B0 T x) ∨ (B ≤ r ∧ ∃ o : Obj, A.heap[r]? = some o ∧ o.isCells = false)) → I pre C

/-- The iterator's contract: it hands yield all of xs, in their order; J abides new blocks and a turn of B0. -/
def Gives {α : Type} (F : Fence) (n : Nat) (P : Program) (gf : Nat) (lb : Array Value) (encs : α → Array Value) (Kp : World → World → Prop) (B0 : Nat) (T : TypeId) (xs : List α) (w : World) : Prop :=
  ∀ (l : Nat) (J : List α → World → Prop) (W : World), w.heap.size ≤ l → Below w.heap.size w W →
    (∀ pre A C row, J pre A → A.grownBy C row → (∀ r, row = some r → r = B0 ∧ ∃ x, Boxed C B0 T x) → J pre C) →
    (∀ pre x W1, J pre W1 → pre ++ [x] <+: xs → YieldAt F (n - 1) P l (encs x) W1 fun e W' => e = .returned (.bool true) ∧ J (pre ++ [x]) W' ∧ Kp W1 W') →
    J [] W →
    CallsIn F n P gf (#[.func (.yield l) #[] #[]] ++ lb) W fun e W' => (∃ v, e = .returned v) ∧ J xs W'

theorem range_cell {α : Type} {g : Operand} {ps : Array Tmp} {assign body : Code} {Q : Exit → Act → World → Prop} {a : Act} {w : World}
    (hro : F.round = none) (h1 : 1 ≤ n) {gf : Nat} {lb : Array Value} (hg : a.eval g = .func (.func gf) #[] lb) (hFg : F.fn gf) (eg : ∀ args w, (callFunc gf args).run P w = .ok (.enter gf args) w)
    {encs : α → Array Value} {Kp : World → World → Prop} (B0 : Nat) {T : TypeId} (hB0 : B0 < w.heap.size) {xs : List α} (hseq : Gives F (n - 1) P gf lb encs Kp B0 T xs w)
    (hKt : ∀ {A B C : World}, Kp A B → Kp B C → Kp A C) (hKb : ∀ (W : World) (l : Nat) (o o' : Obj), w.heap.size ≤ l → W.heap[l]? = some o → o.isCells = false → Kp W (W.putObj l o')) (hps : ∀ x, (encs x).size = ps.size)
    (I : List α → World → Prop) (hI : Stable w.heap.size B0 T I) (h0 : I [] w) (a₁ : α → Act)
    (hassign : ∀ (l : Nat) (x : α) (W : World) (K : Act → World → Prop), K (a₁ x) W →
      assign.wpIn (F.inRound l) (n - 1 - 1) P (Exit.then K (fun _ _ _ => False)) { tmps := (ps.zip (encs x)).foldl (fun t (p, v) => t.setIfInBounds p v) a.tmps, defers := [] } W)
    (hbody : ∀ (l : Nat) (pre : List α) (x : α) (W : World), I pre W → pre ++ [x] <+: xs → body.wpIn (F.inRound l) (n - 1 - 1) P (ownPostG w.heap.size Kp I (fun _ _ _ => False) (pre ++ [x]) W) (a₁ x) W)
    (hdone : ∀ (D : Nat) (W : World), w.heap.size ≤ D → I xs W → W.heap[D]? = some (.deferred (some [])) → Q .normal { a with defers := { target := .collected D, args := #[] } :: a.defers } W) :
    (Code.rangeFunc g ps assign body).wpIn F n P Q a w := by
  refine wpIn_rangeFunc ?_
  intro fn hfn
  rw [hro]
  obtain ⟨rec, hrec⟩ : ∃ rec : LoopState → Option Code → Loop, rec = fun st pe => { state := st, pending := pe, fn, tmps := a.tmps, params := ps, assign, body, defers := w.heap.size } := ⟨_, rfl⟩
  obtain ⟨W1, hW1⟩ : ∃ W1, (w.alloc (.deferred (some []))).alloc (.loop (rec .ready none)) = W1 := ⟨_, rfl⟩
  have hL1 : W1.heap[w.heap.size + 1]? = some (.loop (rec .ready none)) := by
    rw [← hW1]; have := World.alloc_heap_new (w.alloc (.deferred (some []))) (.loop (rec .ready none)); rwa [World.size_alloc] at this
  have hK1 : W1.heap[w.heap.size]? = some (.deferred (some [])) := by
    rw [← hW1]; exact (Below.heap_alloc _ _ _ (by simp)).trans (World.alloc_heap_new w _)
  have inew : ∀ (pre : List α) (A : World) (o : Obj), I pre A → I pre (A.alloc o) := fun pre A o h => hI pre A _ none h (World.grownBy_alloc A o none) (fun r e => by cases e)
  have iput : ∀ (pre : List α) (A : World) (l : Nat) (o o' : Obj), I pre A → w.heap.size ≤ l → A.heap[l]? = some o → o.isCells = false → I pre (A.putObj l o') :=
    fun pre A l o o' h hl ho hc => hI pre A _ (some l) h (grownBy_putObj' A l o') (fun r e => by cases e; exact .inr ⟨hl, o, ho, hc⟩)
  have hI1 : I [] W1 := by rw [← hW1]; exact inew _ _ _ (inew _ _ _ h0)
  have hb1 : Below w.heap.size w W1 := by rw [← hW1]; exact ((Below.refl _ w).alloc (Nat.le_refl _) _).alloc (by simp) _
  refine ⟨w.heap.size + 1, [{ target := .collected w.heap.size, args := #[] }], W1, { target := .fn (.func gf) lb, args := #[.func (.yield (w.heap.size + 1)) #[] #[]] }, W1, gf,
    #[.func (.yield (w.heap.size + 1)) #[] #[]] ++ lb, W1, ?_, ?_, ?_, ?_, fun _ => h1, ?_⟩
  · rw [← hW1, hrec]; exact run_enterLoop_outer _ _ _ _ _
  · simp only [resolve, hg]
    simp [go_sem]
  · intro f' hf'; simp [Target.leads] at hf'; subst hf'; exact hFg
  · simp [invoke, go_sem, eg]
  · refine (hseq (w.heap.size + 1)
      (fun pre W => I pre W ∧ W.heap[w.heap.size + 1]? = some (.loop (rec .ready none)) ∧ W.heap[w.heap.size]? = some (.deferred (some [])))
      W1 (by omega) hb1
      (fun pre A C row hs hg' hr => by
        have keep : ∀ (k : Nat) (o : Obj), w.heap.size ≤ k → A.heap[k]? = some o → C.heap[k]? = some o := fun k o hk ho =>
          (hg'.block k (Array.getElem?_eq_some_iff.1 ho).1 (fun e => by have := (hr k e.symm).1; omega)).trans ho
        exact ⟨hI pre A C row hs.1 hg' (fun r e => .inl (hr r e)), keep _ _ (by omega) hs.2.1, keep _ _ (Nat.le_refl _) hs.2.2⟩)
      ?_ ⟨hI1, hL1, hK1⟩).mono ?_
    · rintro pre x W ⟨hi, hl, hk⟩ hpre
      have hlt : w.heap.size + 1 < W.heap.size := (Array.getElem?_eq_some_iff.1 hl).1
      have hy := run_yield (P := P) (args := encs x) hl (by rw [hrec]; exact hps x)
      rw [hrec] at hy
      refine ⟨fn, _, assign, body, hy, roundIn_of_wpIn hfn (hassign _ x W _ ⟨_, run_beginRound hl (by rw [hrec]), ?_⟩)⟩
      have hl2 : (W.putObj (w.heap.size + 1) (.loop { rec .ready none with state := .busy })).heap[w.heap.size + 1]? = some (.loop { rec .ready none with state := .busy }) := World.putObj_heap_same hlt
      have hk2 : (W.putObj (w.heap.size + 1) (.loop { rec .ready none with state := .busy })).heap[w.heap.size]? = some (.deferred (some [])) := (World.putObj_heap_other (by omega)).trans hk
      have hw2 : Kp W (W.putObj (w.heap.size + 1) (.loop { rec .ready none with state := .busy })) := hKb _ _ _ _ (by omega) hl rfl
      refine wpIn_mono (hbody _ pre x _ (iput _ _ _ _ _ hi (by omega) hl rfl) hpre) ?_
      rintro e a3 W3 hp
      cases e with
      | normal =>
        obtain ⟨hk3, hkp3, hi3⟩ := hp
        have hl3 := hk3.same _ _ (by omega) hl2 rfl
        have hr := run_endRound (P := P) none hl3
        rw [hrec] at hr
        have hl3' := hl3
        rw [hrec] at hl3'
        refine ⟨_, _, hr, rfl, ⟨iput _ _ _ _ _ hi3 (by omega) hl3' rfl, ?_, ?_⟩, hKt (hKt hw2 hkp3) (hKb _ _ _ _ (by omega) hl3' rfl)⟩
        · rw [hrec]; exact World.putObj_heap_same (Array.getElem?_eq_some_iff.1 hl3).1
        · exact (World.putObj_heap_other (by omega)).trans (hk3.same _ _ (Nat.le_refl _) hk2 rfl)
      | ret => exact hp.2.elim
      | exit id => exact hp.2.elim
      | goto t => exact hp.2.elim
      | panic ch => exact hp.elim
      | outgrown => exact hp.elim
    · rintro e W2 ⟨⟨v, rfl⟩, hi, hl, hk⟩
      exact ⟨none, _, by have := run_endLoop (P := P) hl (by rw [hrec]; simp); rw [hrec] at this; exact this, hdone _ _ (Nat.le_refl _) (iput _ _ _ _ _ hi (by omega) hl rfl) ((World.putObj_heap_other (by omega)).trans hk)⟩
end Go.Proofs.YtnndgmbflkdhkaaGreatDoor.R
end
section
set_option linter.unusedSimpArgs false
set_option linter.unusedVariables false
namespace Go.Proofs.YtnndgmbflkdhkaaGreatDoor.Q
open Go.RowKit Go.Proofs.YtnndgmbflkdhkaaGreatDoorW.PrintWords Go.Proofs.YtnndgmbflkdhkaaGreatDoorW.PrintLast Go.Proofs.YtnndgmbflkdhkaaGreatDoorW.PrintMore Go.Proofs.YtnndgmbflkdhkaaGreatDoor.P1
def isAl (c : UInt8) : Bool := (decide (97 ≤ c.toNat) && decide (c.toNat ≤ 122)) || (decide (65 ≤ c.toNat) && decide (c.toNat ≤ 90))
theorem letter_f (c : UInt8) : csp_letter.f (c.toNat : Int) = some (isAl c) := by
  have h : ∀ b : Fin 256, csp_letter.f (b.val : Int) = some (isAl b.val.toUInt8) := by decide +kernel
  have := h ⟨c.toNat, c.toNat_lt⟩
  simpa using this
def inSpan (more : List UInt8) (c : UInt8) : Bool := isAl c || dig c || more.contains c
def spanN (more l : List UInt8) : Nat := (l.takeWhile (inSpan more)).length
theorem spanN_le (more l : List UInt8) : spanN more l ≤ l.length := (List.takeWhile_prefix _).length_le
theorem spanN_cons (more : List UInt8) (c : UInt8) (l : List UInt8) : spanN more (c :: l) = if inSpan more c then spanN more l + 1 else 0 := by
  unfold spanN
  rw [List.takeWhile_cons]
  cases inSpan more c <;> simp
theorem idx_f (more : List UInt8) (c : UInt8) : strings_IndexByte.f (B more) (c.toNat : Int) = some (Lib.indexByte more c) := by
  unfold strings_IndexByte.f
  rw [B_data]; simp
theorem span_l0 (more l : List UInt8) (hl : l.length ≤ 140737488355328) : ∀ (d k i : Nat), l.length - i = d → d < k → i ≤ l.length →
    csp_span.l0 k (B l) (B more) (i : Int) = some (((i + spanN more (l.drop i) : Nat)) : Int) := by
  intro d
  induction d with
  | zero =>
    intro k i hd hk hi
    obtain ⟨k, rfl⟩ : ∃ m, k = m + 1 := ⟨k - 1, by omega⟩
    simp only [csp_span.l0]
    rw [if_neg (by rw [B_size]; omega), List.drop_of_length_le (by omega)]
    simp [spanN]
  | succ d ih =>
    intro k i hd hk hi
    obtain ⟨k, rfl⟩ : ∃ m, k = m + 1 := ⟨k - 1, by omega⟩
    have hlt : i < l.length := by omega
    simp only [csp_span.l0]
    rw [if_pos (by rw [B_size]; omega), if_pos (by omega)]
    have hb : bt (B l) (i : Int) = ((l[i]'hlt).toNat : Int) := by rw [B_bt]; simp [List.getD_eq_getElem?_getD, hlt]
    have hw : wrap64 ((i : Int) + 1) = ((i + 1 : Nat) : Int) := by rw [w64 (by omega) (by omega)]; omega
    have hi' := ih k (i + 1) (by omega) (by omega) (by omega)
    rw [hb, letter_f, digit_f, idx_f, hw, hi', List.drop_eq_getElem_cons hlt, spanN_cons]
    have hc := Lib.contains_iff_indexByte more (l[i]'hlt)
    simp only [Option.bind_some, inSpan]
    generalize l[i]'hlt = c at *
    by_cases h1 : isAl c = true
    · simp [h1]; omega
    · by_cases h2 : dig c = true
      · simp [h1, h2]; omega
      · by_cases h3 : 0 ≤ Lib.indexByte more c
        · rw [decide_eq_true h3] at hc
          have hm : c ∈ more := by simpa using hc
          simp [h1, h2, h3, hm]; omega
        · rw [decide_eq_false h3] at hc
          have hm : c ∉ more := by simpa using hc
          simp [h1, h2, h3, hm]
theorem span_f (more l : List UInt8) (hl : l.length ≤ 140737488355328) (k : Nat) (hk : l.length < k) : csp_span.f k (B l) (B more) = some ((spanN more l : Nat) : Int) := by
  have := span_l0 more l hl l.length k 0 (by omega) hk (by omega)
  unfold csp_span.f
  simpa using this
def schN : List UInt8 → Nat
  | [] => 0
  | c :: l => if isAl c then spanN [43, 45, 46] (c :: l) else 0
theorem schN_le (l : List UInt8) : schN l ≤ l.length := by
  cases l with
  | nil => simp [schN]
  | cons c l =>
    show (if isAl c then spanN [43, 45, 46] (c :: l) else 0) ≤ _
    split
    · exact spanN_le _ _
    · omega
theorem scheme_f (l : List UInt8) (hl : l.length ≤ 140737488355328) (k : Nat) (hk : l.length < k) : csp_scheme.f k (B l) = some ((schN l : Nat) : Int) := by
  unfold csp_scheme.f
  cases l with
  | nil => rw [if_pos (B_toList _)]; rfl
  | cons c l =>
    rw [if_neg (by rw [B_toList]; simp), if_pos (by rw [B_size]; simp)]
    have hb : bt (B (c :: l)) 0 = (c.toNat : Int) := by rw [B_bt]; simp
    rw [hb, letter_f]
    simp only [Option.bind_some, schN]
    cases isAl c with
    | true =>
      have := span_f [43, 45, 46] (c :: l) hl k hk
      rw [show (⟨#[43, 45, 46]⟩ : ByteArray) = B [43, 45, 46] from rfl, this]; simp
    | false => simp
def lowC (c : UInt8) : UInt8 := if 65 ≤ c.toNat ∧ c.toNat ≤ 90 then c + 32 else c
def upC (c : UInt8) : UInt8 := if 97 ≤ c.toNat ∧ c.toNat ≤ 122 then c - 32 else c
def low (l : List UInt8) : List UInt8 := l.map lowC
def up (l : List UInt8) : List UInt8 := l.map upC
theorem turn_low (c : UInt8) : turnV 65 90 32 (c.toNat : Int) = ((lowC c).toNat : Int) := by
  have h : ∀ b : Fin 256, turnV 65 90 32 (b.val : Int) = ((lowC b.val.toUInt8).toNat : Int) := by decide +kernel
  have := h ⟨c.toNat, c.toNat_lt⟩
  simpa using this
theorem turn_up (c : UInt8) : turnV 97 122 32 (c.toNat : Int) = ((upC c).toNat : Int) := by
  have h : ∀ b : Fin 256, turnV 97 122 32 (b.val : Int) = ((upC b.val.toUInt8).toNat : Int) := by decide +kernel
  have := h ⟨c.toNat, c.toNat_lt⟩
  simpa using this
theorem lower_f (l : List UInt8) (hl : l.length ≤ 281474976710656) : pct_Lower.f (B l) = some (B (low l)) := by
  unfold pct_Lower.f pct_turned.f
  rw [if_pos (by rw [B_size]; omega)]
  simp only [Option.bind_some]
  congr 1
  rw [B_data, ← strOf_ns]
  unfold turnL ns low
  rw [List.map_map]
  congr 1
  apply List.map_congr_left
  intro c _
  exact turn_low c
theorem upper_f (l : List UInt8) (hl : l.length ≤ 281474976710656) : pct_Upper.f (B l) = some (B (up l)) := by
  unfold pct_Upper.f pct_turned.f
  rw [if_pos (by rw [B_size]; omega)]
  simp only [Option.bind_some]
  congr 1
  rw [B_data, ← strOf_ns]
  unfold turnL ns up
  rw [List.map_map]
  congr 1
  apply List.map_congr_left
  intro c _
  exact turn_up c
theorem low_length (l : List UInt8) : (low l).length = l.length := by simp [low]
end Go.Proofs.YtnndgmbflkdhkaaGreatDoor.Q
end
