/- A range over a function whose iterator keeps its state in one captured variable (block B0): a law for loops that run to their end. -/
/- utf.Encode: what it answers, of every list of runes that fits. -/
import Derived.RangeFuncNested
import Derived.RangeFuncBox
import Derived.RangeFuncLeaves
import Derived.WalkKit
import Derived.OwnWalkIn
import Derived.TacticsInMore
import Derived.LoopNIn
import Derived.LoopIn
import Derived.Maps.AppendAt
import Derived.Test.YtbcbmmlpgdndpaaDoorSB3
import Derived.Shelf.Utf8.AppendRunePlain
import Derived.LoopTactic
import Derived.Lib.Hide
import Derived.Laws.BytesArg
section
set_option linter.unusedSimpArgs false
set_option linter.unusedVariables false
namespace Go.Proofs.YtbcbmmlpgdndpaaDoor.R
open Go.RowKit
variable {F : Fence} {n : Nat} {P : Program}
/-- What an invariant of the loop must abide: new blocks, a turn of the iterator's own variable, a turn of the loop's own book-keeping. -/
def Stable {α : Type} (B B0 : Nat) (T : TypeId) (I : List α → World → Prop) : Prop :=
  ∀ pre A C row, I pre A → A.grownBy C row → (∀ r, row = some r → (r = B0 ∧ ∃ x, Boxed C B0 T x) ∨ (B ≤ r ∧ ∃ o : Obj, A.heap[r]? = some o ∧ o.isCells = false)) → I pre C
/-- The iterator's contract: it hands yield all of xs, in their order; J abides new blocks and a turn of B0. -/
def Gives {α : Type} (F : Fence) (n : Nat) (P : Program) (gf : Nat) (lb : Array Value) (encs : α → Array Value) (Kp : World → World → Prop) (B0 : Nat) (T : TypeId) (xs : List α) (w : World) : Prop :=
  ∀ (l : Nat) (J : List α → World → Prop) (W : World), w.heap.size ≤ l → Below w.heap.size w W →
    (∀ pre A C row, J pre A → A.grownBy C row → (∀ r, row = some r → r = B0 ∧ ∃ x, Boxed C B0 T x) → J pre C) →
    (∀ pre x W1, J pre W1 → pre ++ [x] <+: xs → YieldAt F (n - 1) P l (encs x) W1 fun e W' => e = .returned (.bool true) ∧ J (pre ++ [x]) W' ∧ Kp W1 W') →
    J [] W →
    CallsIn F n P gf (#[.func (.yield l) #[] #[]] ++ lb) W fun e W' => (∃ v, e = .returned v) ∧ J xs W'
theorem range_cell {α : Type} {g : Operand} {ps : Array Tmp} {assign body : Code} {Q : Exit → Act → World → Prop} {a : Act} {w : World}
    (hro : F.round = none) (h1 : 1 ≤ n) {gf : Nat} {lb : Array Value} (hg : a.eval g = .func (.func gf) #[] lb) (hFg : F.fn gf) (eg : ∀ args w, (callFunc gf args).run P w = .ok (.enter gf args) w)
    {encs : α → Array Value} {Kp : World → World → Prop} (B0 : Nat) {T : TypeId} (hB0 : B0 < w.heap.size) {xs : List α} (hseq : Gives F (n - 1) P gf lb encs Kp B0 T xs w)
    (hKt : ∀ {A B C : World}, Kp A B → Kp B C → Kp A C) (hKb : ∀ (W : World) (l : Nat) (o o' : Obj), w.heap.size ≤ l → W.heap[l]? = some o → o.isCells = false → Kp W (W.putObj l o')) (hps : ∀ x, (encs x).size = ps.size)
    (I : List α → World → Prop) (hI : Stable w.heap.size B0 T I) (h0 : I [] w) (a₁ : α → Act)
    (hassign : ∀ (l : Nat) (x : α) (W : World) (K : Act → World → Prop), K (a₁ x) W →
      assign.wpIn (F.inRound l) (n - 1 - 1) P (Exit.then K (fun _ _ _ => False)) { tmps := (ps.zip (encs x)).foldl (fun t (p, v) => t.setIfInBounds p v) a.tmps, defers := [] } W)
    (hbody : ∀ (l : Nat) (pre : List α) (x : α) (W : World), I pre W → pre ++ [x] <+: xs → body.wpIn (F.inRound l) (n - 1 - 1) P (ownPostG w.heap.size Kp I (fun _ _ _ => False) (pre ++ [x]) W) (a₁ x) W)
    (hdone : ∀ (D : Nat) (W : World), w.heap.size ≤ D → I xs W → W.heap[D]? = some (.deferred (some [])) → Q .normal { a with defers := { target := .collected D, args := #[] } :: a.defers } W) :
    (Code.rangeFunc g ps assign body).wpIn F n P Q a w := by
  refine wpIn_rangeFunc ?_
  intro fn hfn
  rw [hro]
  obtain ⟨rec, hrec⟩ : ∃ rec : LoopState → Option Code → Loop, rec = fun st pe => { state := st, pending := pe, fn, tmps := a.tmps, params := ps, assign, body, defers := w.heap.size } := ⟨_, rfl⟩
  obtain ⟨W1, hW1⟩ : ∃ W1, (w.alloc (.deferred (some []))).alloc (.loop (rec .ready none)) = W1 := ⟨_, rfl⟩
  have hL1 : W1.heap[w.heap.size + 1]? = some (.loop (rec .ready none)) := by
    rw [← hW1]; have := World.alloc_heap_new (w.alloc (.deferred (some []))) (.loop (rec .ready none)); rwa [World.size_alloc] at this
  have hK1 : W1.heap[w.heap.size]? = some (.deferred (some [])) := by
    rw [← hW1]; exact (Below.heap_alloc _ _ _ (by simp)).trans (World.alloc_heap_new w _)
  have inew : ∀ (pre : List α) (A : World) (o : Obj), I pre A → I pre (A.alloc o) := fun pre A o h => hI pre A _ none h (World.grownBy_alloc A o none) (fun r e => by cases e)
  have iput : ∀ (pre : List α) (A : World) (l : Nat) (o o' : Obj), I pre A → w.heap.size ≤ l → A.heap[l]? = some o → o.isCells = false → I pre (A.putObj l o') :=
    fun pre A l o o' h hl ho hc => hI pre A _ (some l) h (grownBy_putObj' A l o') (fun r e => by cases e; exact .inr ⟨hl, o, ho, hc⟩)
  have hI1 : I [] W1 := by rw [← hW1]; exact inew _ _ _ (inew _ _ _ h0)
  have hb1 : Below w.heap.size w W1 := by rw [← hW1]; exact ((Below.refl _ w).alloc (Nat.le_refl _) _).alloc (by simp) _
  refine ⟨w.heap.size + 1, [{ target := .collected w.heap.size, args := #[] }], W1, { target := .fn (.func gf) lb, args := #[.func (.yield (w.heap.size + 1)) #[] #[]] }, W1, gf,
    #[.func (.yield (w.heap.size + 1)) #[] #[]] ++ lb, W1, ?_, ?_, ?_, ?_, fun _ => h1, ?_⟩
  · rw [← hW1, hrec]; exact run_enterLoop_outer _ _ _ _ _
  · simp only [resolve, hg]
    simp [go_sem]
  · intro f' hf'; simp [Target.leads] at hf'; subst hf'; exact hFg
  · simp [invoke, go_sem, eg]
  · refine (hseq (w.heap.size + 1)
      (fun pre W => I pre W ∧ W.heap[w.heap.size + 1]? = some (.loop (rec .ready none)) ∧ W.heap[w.heap.size]? = some (.deferred (some [])))
      W1 (by omega) hb1
      (fun pre A C row hs hg' hr => by
        have keep : ∀ (k : Nat) (o : Obj), w.heap.size ≤ k → A.heap[k]? = some o → C.heap[k]? = some o := fun k o hk ho =>
          (hg'.block k (Array.getElem?_eq_some_iff.1 ho).1 (fun e => by have := (hr k e.symm).1; omega)).trans ho
        exact ⟨hI pre A C row hs.1 hg' (fun r e => .inl (hr r e)), keep _ _ (by omega) hs.2.1, keep _ _ (Nat.le_refl _) hs.2.2⟩)
      ?_ ⟨hI1, hL1, hK1⟩).mono ?_
    · rintro pre x W ⟨hi, hl, hk⟩ hpre
      have hlt : w.heap.size + 1 < W.heap.size := (Array.getElem?_eq_some_iff.1 hl).1
      have hy := run_yield (P := P) (args := encs x) hl (by rw [hrec]; exact hps x)
      rw [hrec] at hy
      refine ⟨fn, _, assign, body, hy, roundIn_of_wpIn hfn (hassign _ x W _ ⟨_, run_beginRound hl (by rw [hrec]), ?_⟩)⟩
      have hl2 : (W.putObj (w.heap.size + 1) (.loop { rec .ready none with state := .busy })).heap[w.heap.size + 1]? = some (.loop { rec .ready none with state := .busy }) := World.putObj_heap_same hlt
      have hk2 : (W.putObj (w.heap.size + 1) (.loop { rec .ready none with state := .busy })).heap[w.heap.size]? = some (.deferred (some [])) := (World.putObj_heap_other (by omega)).trans hk
      have hw2 : Kp W (W.putObj (w.heap.size + 1) (.loop { rec .ready none with state := .busy })) := hKb _ _ _ _ (by omega) hl rfl
      refine wpIn_mono (hbody _ pre x _ (iput _ _ _ _ _ hi (by omega) hl rfl) hpre) ?_
      rintro e a3 W3 hp
      cases e with
      | normal =>
        obtain ⟨hk3, hkp3, hi3⟩ := hp
        have hl3 := hk3.same _ _ (by omega) hl2 rfl
        have hr := run_endRound (P := P) none hl3
        rw [hrec] at hr
        have hl3' := hl3
        rw [hrec] at hl3'
        refine ⟨_, _, hr, rfl, ⟨iput _ _ _ _ _ hi3 (by omega) hl3' rfl, ?_, ?_⟩, hKt (hKt hw2 hkp3) (hKb _ _ _ _ (by omega) hl3' rfl)⟩
        · rw [hrec]; exact World.putObj_heap_same (Array.getElem?_eq_some_iff.1 hl3).1
        · exact (World.putObj_heap_other (by omega)).trans (hk3.same _ _ (Nat.le_refl _) hk2 rfl)
      | ret => exact hp.2.elim
      | exit id => exact hp.2.elim
      | goto t => exact hp.2.elim
      | panic ch => exact hp.elim
      | outgrown => exact hp.elim
    · rintro e W2 ⟨⟨v, rfl⟩, hi, hl, hk⟩
      exact ⟨none, _, by have := run_endLoop (P := P) hl (by rw [hrec]; simp); rw [hrec] at this; exact this, hdone _ _ (Nat.le_refl _) (iput _ _ _ _ _ hi (by omega) hl rfl) ((World.putObj_heap_other (by omega)).trans hk)⟩
end Go.Proofs.YtbcbmmlpgdndpaaDoor.R
end
section
namespace Go.Proofs
open Go.Shelf Go.RowKit
def Tryd.lays242_ren : Go.Shelf.Ren := ⟨fun | 242 => 80 | 278 => 95 | n => n, fun | 4 => 4 | 5 => 5 | 21 => 21 | 37 => 45 | 46 => 86 | 51 => 121 | n => n, fun n => n⟩
theorem Tryd.lays242 : Go.Proofs.Lays.n242 Tryd.prog Tryd.lays242_ren := {
  mixed := by kernel_rfl
  f242 := Tryd.func80.trans (congrArg some (by kernel_rfl))
  f278 := Tryd.func95.trans (congrArg some (by kernel_rfl))
  t4 := Tryd.underlying4
  a4 := Tryd.isAgg4
  z4 := Tryd.sizeOf4
  v4 := Tryd.zeroValue4
  t5 := Tryd.underlying5
  a5 := Tryd.isAgg5
  z5 := Tryd.sizeOf5
  v5 := Tryd.zeroValue5
  t21 := Tryd.underlying21
  a21 := Tryd.isAgg21
  z21 := Tryd.sizeOf21
  v21 := Tryd.zeroValue21
  t37 := Tryd.underlying45
  a37 := Tryd.isAgg45
  z37 := Tryd.sizeOf45
  v37 := Tryd.zeroValue45
  t46 := Tryd.underlying86
  a46 := Tryd.isAgg86
  z46 := Tryd.sizeOf86
  v46 := Tryd.zeroValue86
  t51 := Tryd.underlying121
  a51 := Tryd.isAgg121
  z51 := Tryd.sizeOf121
  v51 := Tryd.zeroValue121 }
theorem Tryd.byteInfo : (Tryd.prog.info? 5).map (fun i => (i.zero, i.size, i.bytes)) = some (some (.int .u8 0), 1, 1) := by kernel_rfl
theorem Tryd.appendRune (B : Nat) (v : Value) (n : Nat) (xs : List Value) (r : Int) (hr0 : -2147483648 ≤ r) (hr1 : r ≤ 2147483647) (w : World) (hown : w.ownsRow B 5 1 v n xs) (hlen : n + 4 ≤ 140737488355328) (hBw : B ≤ w.heap.size) :
    Calls Tryd.prog 80 #[v, .int .i32 r] w fun e w' => ∃ v', e = .returned v' ∧ w'.ownsRow B 5 1 v' (n + (Lib.runeCells r).length) (xs ++ Lib.runeCells r) ∧ Below B w w' ∧ w.heap.size ≤ w'.heap.size :=
  (Any.utf8_AppendRune_plain Tryd.lays242 Tryd.byteInfo B v n xs r hr0 hr1 w hown hlen hBw).mono fun _ _ ⟨v', a, b, o, c⟩ => ⟨v', a, b, ((Below.refl B w).alloc hBw o).grown c (by simp; omega) (fun k hk => (hown.lt k hk).1), by have := c.size; simp at this; omega⟩
end Go.Proofs
namespace Go.Proofs.YtbcbmmlpgdndpaaDoor.Q
open Go.RowKit Go.Proofs.YtbcbmmlpgdndpaaDoorW.PrintWords Go.Proofs.YtbcbmmlpgdndpaaDoorW.PrintLast Go.Proofs.YtbcbmmlpgdndpaaDoorW.PrintMore
set_option linter.unusedVariables false
def inR32 (x : Int) : Prop := -2147483648 ≤ x ∧ x ≤ 2147483647
instance (x : Int) : Decidable (inR32 x) := inferInstanceAs (Decidable (_ ∧ _))
def encRunes (l : List Int) : List UInt8 := l.flatMap Lib.encodeRune
def utf_Encode.f (l0 : List Int) : Option ByteArray := if l0.length ≤ 17592186044416 ∧ ∀ x ∈ l0, inR32 x then some ⟨(encRunes l0).toArray⟩ else none
theorem runeCells_bytes (r : Int) : Lib.runeCells r = Lib.byteCells (Lib.encodeRune r) := (Lib.byteCells_encodeRune r).symm
theorem encRunes_take (l : List Int) (k : Nat) (h : k < l.length) : encRunes (l.take (k + 1)) = encRunes (l.take k) ++ Lib.encodeRune (l.getD k 0) := by
  have e : l.getD k 0 = l[k] := by simp [List.getD, h]
  rw [List.take_succ_eq_append_getElem h, e]
  unfold encRunes
  rw [List.flatMap_append]
  congr 1
  simp
theorem encodeRune_len (r : Int) : 1 ≤ (Lib.encodeRune r).length ∧ (Lib.encodeRune r).length ≤ 4 := by
  have := Lib.runeCells_le r
  rw [Lib.runeCells_length] at this
  exact this
theorem encRunes_len (l : List Int) : (encRunes l).length ≤ 4 * l.length := by
  induction l with
  | nil => simp [encRunes]
  | cons r l ih =>
    have h : encRunes (r :: l) = Lib.encodeRune r ++ encRunes l := by simp [encRunes]
    have := encodeRune_len r
    rw [h, List.length_append, List.length_cons]; omega
theorem own_bytes_string {P : Program} {w : World} {base n : Nat} {src dst e : TypeId} {v : Value} {l : List UInt8} (hs : P.underlying src = some (.slice e)) (he : P.underlying e = some (.int .u8)) (hd : P.underlying dst = some .string)
    (h : w.ownsRow base e 1 v n (Lib.byteCells l)) : (convert src dst v).run P w = .ok (.string ⟨l.toArray⟩) w := by
  have e1 : Lib.byteCells l = nums .u8 (l.map fun c => (c.toNat : Int)) := by simp [Lib.byteCells, nums]
  rw [e1] at h
  have := own_string (P := P) (dst := dst) hs he hd h
  rw [this]
  have e2 : strOfNums (l.map fun c => (c.toNat : Int)) = ⟨l.toArray⟩ := by
    unfold strOfNums
    rw [List.map_map]
    congr 2
    conv => rhs; rw [← List.map_id l]
    apply List.map_congr_left
    intro c _
    simp
  rw [e2]
set_option maxHeartbeats 1000000 in
set_option maxRecDepth 100000 in
theorem uenc_any (A : Option Addr) (c : Nat) (l : List Int) (w : World) (hr : Kd.C (Kd.int .i32) w A l.length l) (hl : l.length ≤ 17592186044416) (hx : ∀ x ∈ l, inR32 x) :
    Calls Tryd.prog 64 #[.slice A l.length c] w fun e w' => e = .returned (.string ⟨(encRunes l).toArray⟩) ∧ Below w.heap.size w w' := by
  have HR := Lib.hid hr
  have HX := Lib.hid hx
  clear hr hx
  go_enter Tryd.func64, Tryd.ntmps64
  go_wp2
  go_loopw [3, 8] (fun v i wr => ∃ k : Nat, k ≤ l.length ∧ i = .int .i64 k ∧ wr.ownsRow w.heap.size 5 1 v (encRunes (l.take k)).length (Lib.byteCells (encRunes (l.take k))) ∧ Below w.heap.size w wr) (fun _ i _ => l.length - (intOf i).toNat)
  case atStart => exact ⟨0, Nat.zero_le _, rfl, World.ownsRow_nil _ _ _ _, Below.refl _ _⟩
  case round =>
    obtain ⟨k, hk, rfl, hO, hbel⟩ := hrel
    have HO := Lib.hid hO
    have HB := Lib.hid hbel
    have hsz := hbel.size
    clear hO hbel
    by_cases hlt : k < l.length
    · obtain ⟨ad, rfl, hc⟩ := Kd.at_int HR.out (k : Int) (by omega) (by omega)
      have hlt' : decide (k < l.length) = true := decide_eq_true hlt
      have hcell : wr.cell? (ad.add k) = some (.int .i32 (rd l k)) := pw_cell_below HB.out (by simpa using hc)
      clear hc
      have HN := Lib.hid (encRunes_take l k hlt)
      have hlen := encRunes_len (l.take k)
      have htk : (l.take k).length ≤ k := List.length_take_le _ _
      have hin := HX.out (rd l k) (by unfold rd; simp [List.getD, hlt])
      have hr0 := hin.1
      have hr1 := hin.2
      clear hin
      go_wp2_with (go_at_call 80; refine (Tryd.appendRune w.heap.size _ _ _ _ hr0 hr1 _ HO.out (by omega) (by omega)).mono ?_; rintro e w1 ⟨v', rfl, hO1, hb1, hs1⟩)
      have hO2 : w1.ownsRow w.heap.size 5 1 v' (encRunes (l.take (k + 1))).length (Lib.byteCells (encRunes (l.take (k + 1)))) := by
        rw [HN.out, List.length_append]
        have e1 : (Lib.runeCells (rd l k)).length = (Lib.encodeRune (l.getD k 0)).length := by rw [Lib.runeCells_length]; rfl
        have e2 : Lib.byteCells (encRunes (l.take k) ++ Lib.encodeRune (l.getD k 0)) = Lib.byteCells (encRunes (l.take k)) ++ Lib.runeCells (rd l k) := by
          rw [runeCells_bytes]; simp [Lib.byteCells]; rfl
        rw [e2, ← e1]; exact hO1
      go_roundw
      case rel => exact ⟨k + 1, by omega, by go_num, hO2, HB.out.trans hb1⟩
      case measure => simp [intOf] <;> omega
    · have hge : decide (k < l.length) = false := decide_eq_false hlt
      have hk' : k = l.length := by omega
      have HF := Lib.hid (show l.take k = l by rw [hk', List.take_length])
      clear hk'
      have hO := HO.out
      rw [HF.out] at hO
      have hcv := own_bytes_string (P := Tryd.prog) (src := 45) (dst := 9) Tryd.underlying45 Tryd.underlying5 Tryd.underlying9 hO
      clear hO
      go_wp2
      go_ret
      exact ⟨rfl, HB.out⟩
theorem utf_Encode.calls (A0 : Option Addr) (c0 : Nat) (l0 : List Int) (r : ByteArray) (w : World) (hr0 : Kd.C (Kd.int .i32) w A0 l0.length l0) (hc0 : l0.length ≤ c0) (h : utf_Encode.f l0 = some r) :
    Calls Tryd.prog 64 #[.slice A0 l0.length c0] w fun e w' => e = .returned (.string r) ∧ Below w.heap.size w w' := by
  unfold utf_Encode.f at h
  split at h
  · rename_i hh
    obtain rfl := Option.some.inj h
    exact uenc_any A0 c0 l0 w hr0 hh.1 hh.2
  · cases h
end Go.Proofs.YtbcbmmlpgdndpaaDoor.Q
end
