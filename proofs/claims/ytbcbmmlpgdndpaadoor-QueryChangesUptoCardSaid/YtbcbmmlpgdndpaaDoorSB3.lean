/- Functions of the given program as plain Lean functions, each with the proof that the machine answers as it does; laid by a program of mine over the kit print. -/
/- The order of lists of numbers, and the document's way to put one more into an ordered list, plain. -/
import Derived.Test.YtbcbmmlpgdndpaaDoorProg
import Derived.Below
import Derived.Deep.Draws
import Derived.Deep.AppendLies
import Derived.Maps.AppendAt
import Derived.OwnWalk
import Derived.Laws.BytesArg
import Derived.Laws.MakeOwn
import Derived.Laws.OwnMore
import Derived.Deep.OwnRows
import Derived.Tactics
import Derived.Lib.ConvBytes
import Derived.Laws.Slices
import Derived.WalkKit
import Derived.KernelRfl
import Derived.RowKit3
import Derived.Deep.LoopGhost
import Derived.Deep.QuietTactic
import Derived.BigQuiet
import Derived.WideLaws
import Derived.Deep.DeepCutAuto
import Derived.Deep.CutBlock
import Derived.Deep.RegionHeld3
import Derived.Laws.Rows
import Derived.Lib.AppendStr
import Derived.ArgAppend
import Derived.Laws.IdiomCopy
import Derived.OrdersHeld
import Derived.Laws.BitsLemmas
import Derived.RowKit
import Derived.Test.YtbcbmmlpgdndpaaDoorSWWords
import Derived.Test.YtbcbmmlpgdndpaaDoorSWLast
import Derived.Test.YtbcbmmlpgdndpaaDoorSWTab
import Derived.Test.YtbcbmmlpgdndpaaDoorSB1
import Derived.Test.YtbcbmmlpgdndpaaDoorSB14
import Derived.Shelf.Unicode.DecodeSlow
import Derived.Test.YtbcbmmlpgdndpaaDoorSStab
section
namespace Go.Proofs.YtbcbmmlpgdndpaaDoor.Q
open Go.RowKit Go.Proofs.YtbcbmmlpgdndpaaDoorW.PrintWords Go.Proofs.YtbcbmmlpgdndpaaDoorW.PrintLast Go.Proofs.YtbcbmmlpgdndpaaDoorW.PrintMore
attribute [local go_sem] max2_int min2_int max_two min_two max_three min_three max_four min_four
set_option linter.unusedVariables false
set_option linter.unusedSimpArgs false
def errW : Option Int → Value
  | none => .nilIface
  | some c => .iface 0 (.int .i64 c)
theorem errW_none : errW none = .nilIface := rfl
theorem errW_some (c : Int) : errW (some c) = .iface 0 (.int .i64 c) := rfl
theorem info5 : (Tryd.prog.info? 5).map (fun i => (i.zero, i.size, i.bytes)) = some (some (.int .u8 0), 1, 1) := by kernel_rfl
theorem info21 : (Tryd.prog.info? 21).map (fun i => (i.zero, i.size, i.bytes)) = some (some (.int .i32 0), 1, 4) := by kernel_rfl
theorem info32 : (Tryd.prog.info? 32).map (fun i => (i.zero, i.size, i.bytes)) = some (some (.agg #[(.string ⟨#[]⟩), (.string ⟨#[]⟩)]), 2, 32) := by kernel_rfl
theorem info69 : (Tryd.prog.info? 69).map (fun i => (i.zero, i.size, i.bytes)) = some (some (.int .u16 0), 1, 2) := by kernel_rfl
-- the values' own types
structure S32 where
  f0 : ByteArray
  f1 : ByteArray
def z32 : S32 := ⟨(⟨#[]⟩ : ByteArray), (⟨#[]⟩ : ByteArray)⟩
def k32 : Kd S32 := Kd.iso (Kd.pair Kd.string Kd.string) (fun x : S32 => (x.f0, x.f1))
theorem k32_open {w : World} {x : S32} {cs : List Value} (h : k32.K w x cs) : cs = [.string x.f0, .string x.f1] := by
  obtain ⟨_, _, rfl, rfl, rfl⟩ := h
  exact rfl
theorem k32_openM {w : World} {base : Nat} {ok : Nat → Prop} {x : S32} {cs : List Value} (h : k32.M w base ok x cs) : cs = [.string x.f0, .string x.f1] := by
  obtain ⟨_, _, rfl, rfl, rfl⟩ := h
  exact rfl
theorem k32_mkM (w : World) (base : Nat) (ok : Nat → Prop) (x : S32)  : k32.M w base ok x [.string x.f0, .string x.f1] := ⟨[.string x.f0], [.string x.f1], rfl, rfl, rfl⟩
def rd_T32 (xs : List S32) (i : Int) : S32 := xs.getD i.toNat z32
theorem at_T32 {w : World} {A : Option Addr} {n : Nat} {xs : List S32} (h : Kd.C k32 w A n xs) (i : Int) (h0 : 0 ≤ i) (h1 : i < n) : ∃ ad , A = some ad ∧ w.cell? (ad.add (i.toNat * 2)) = some (.string (rd_T32 xs i).f0) ∧ w.cell? ⟨(ad.add (i.toNat * 2)).block, (ad.add (i.toNat * 2)).off + 1, none⟩ = some (.string (rd_T32 xs i).f1) := by
  obtain ⟨ad, c, e, _, hK, hc0⟩ := Kd.C_get h z32 i h0 h1
  have hc : ∀ j u, c[j]? = some u → w.cell? (ad.add (i.toNat * 2 + j)) = some u := hc0
  obtain rfl := k32_open hK
  exact ⟨ad, e, hc 0 _ rfl, by rw [← add_field _ _ 1 (by omega)]; exact hc 1 _ rfl⟩
def UTabs (w : World) : Prop := Lib.Utf8Tabs 0 1 w ∧ (∃ m, w.cell? ⟨2, 0, none⟩ = some (.int .i64 m)) ∧ True
theorem UTabs.below {w w' : World} (h : UTabs w) (hb : Below w.heap.size w w') : UTabs w' := by
  obtain ⟨h, ⟨m, hm⟩, _⟩ := h
  have lt : ∀ (p : Addr) (v : Value), w.cell? p = some v → p.block < w.heap.size := by
    intro p v hp
    rcases Nat.lt_or_ge p.block w.heap.size with h' | h'
    · exact h'
    · simp [World.cell?, Array.getElem?_eq_none h'] at hp
  refine ⟨⟨fun c hc => ?_, fun i hi => ⟨?_, ?_⟩⟩, ⟨m, ?_⟩, trivial⟩
  · rw [hb.cell (lt _ _ (h.1 c hc))]; exact h.1 c hc
  · rw [hb.cell (lt _ _ (h.2 i hi).1)]; exact (h.2 i hi).1
  · rw [hb.cell (lt _ _ (h.2 i hi).2)]; exact (h.2 i hi).2
  · rw [hb.cell (lt _ _ hm)]; exact hm
theorem UTabs.u8 {w : World} (h : UTabs w) : Lib.Utf8Tabs 0 1 w := h.1
theorem cells8 {w : World} {g : Nat} {t : TypeId} {c0 c1 c2 c3 c4 c5 c6 c7 : Value} (h : w.heap[g]? = some (.cells #[c0, c1, c2, c3, c4, c5, c6, c7] t (0, 0))) : w.cell? ⟨g, 0, none⟩ = some c0 ∧ w.cell? ⟨g, 1, none⟩ = some c1 ∧ w.cell? ⟨g, 2, none⟩ = some c2 ∧ w.cell? ⟨g, 3, none⟩ = some c3 ∧ w.cell? ⟨g, 4, none⟩ = some c4 ∧ w.cell? ⟨g, 5, none⟩ = some c5 ∧ w.cell? ⟨g, 6, none⟩ = some c6 ∧ w.cell? ⟨g, 7, none⟩ = some c7 ∧ w.frozen? ⟨g, 0, none⟩ = false ∧ w.frozen? ⟨g, 1, none⟩ = false ∧ w.frozen? ⟨g, 2, none⟩ = false ∧ w.frozen? ⟨g, 3, none⟩ = false ∧ w.frozen? ⟨g, 4, none⟩ = false ∧ w.frozen? ⟨g, 5, none⟩ = false ∧ w.frozen? ⟨g, 6, none⟩ = false ∧ w.frozen? ⟨g, 7, none⟩ = false :=
  ⟨(blk_cell h 0).trans rfl, (blk_cell h 1).trans rfl, (blk_cell h 2).trans rfl, (blk_cell h 3).trans rfl, (blk_cell h 4).trans rfl, (blk_cell h 5).trans rfl, (blk_cell h 6).trans rfl, (blk_cell h 7).trans rfl, blk_frozen h 0, blk_frozen h 1, blk_frozen h 2, blk_frozen h 3, blk_frozen h 4, blk_frozen h 5, blk_frozen h 6, blk_frozen h 7⟩
end Go.Proofs.YtbcbmmlpgdndpaaDoor.Q
end
section
set_option linter.unusedSimpArgs false
set_option linter.unusedVariables false
namespace Go.Proofs.YtbcbmmlpgdndpaaDoor.St
/-- the first number that differs tells; else the shorter one is ahead -/
def lexLt : List Int → List Int → Bool
  | _, [] => false
  | [], _ :: _ => true
  | x :: s, y :: t => if x = y then lexLt s t else decide (x < y)
theorem lex_asymm : ∀ a b : List Int, lexLt a b = true → lexLt b a = false
  | a, [], h => by cases a <;> simp [lexLt] at h
  | [], y :: t, h => rfl
  | x :: s, y :: t, h => by
    unfold lexLt at h ⊢
    by_cases e : x = y
    · rw [if_pos e] at h
      rw [if_pos e.symm]
      exact lex_asymm s t h
    · rw [if_neg e] at h
      rw [if_neg (fun e' => e e'.symm)]
      have := of_decide_eq_true h
      exact decide_eq_false (by omega)
theorem lex_neg : ∀ a b c : List Int, lexLt a c = true → lexLt a b = true ∨ lexLt b c = true
  | a, b, [], h => by cases a <;> simp [lexLt] at h
  | [], [], z :: t, h => .inr rfl
  | [], y :: s, z :: t, h => .inl rfl
  | x :: r, [], z :: t, h => .inr rfl
  | x :: r, y :: s, z :: t, h => by
    unfold lexLt at h ⊢
    by_cases e1 : x = y
    · rw [if_pos e1]
      subst e1
      by_cases e2 : x = z
      · rw [if_pos e2] at h ⊢
        exact lex_neg r s t h
      · rw [if_neg e2] at h ⊢
        exact .inr h
    · rw [if_neg e1]
      by_cases h2 : x < y
      · exact .inl (decide_eq_true h2)
      · right
        by_cases e3 : x = z
        · rw [if_neg (by omega)]
          exact decide_eq_true (by omega)
        · rw [if_neg e3] at h
          have := of_decide_eq_true h
          rw [if_neg (by omega)]
          exact decide_eq_true (by omega)
section
variable {α : Type} (key : α → List Int)
theorem lex_tot (x y : α) (h : leq (fun a b => lexLt (key a) (key b)) x y = false) : leq (fun a b => lexLt (key a) (key b)) y x = true := by
  unfold leq at h ⊢
  have : lexLt (key y) (key x) = true := by simpa using h
  show (!lexLt (key x) (key y)) = true
  rw [lex_asymm _ _ this]
  rfl
theorem lex_tr (x y z : α) (h1 : leq (fun a b => lexLt (key a) (key b)) x y = true) (h2 : leq (fun a b => lexLt (key a) (key b)) y z = true) : leq (fun a b => lexLt (key a) (key b)) x z = true := by
  unfold leq at h1 h2 ⊢
  have a1 : lexLt (key y) (key x) = false := by simpa using h1
  have a2 : lexLt (key z) (key y) = false := by simpa using h2
  show (!lexLt (key z) (key x)) = true
  cases h : lexLt (key z) (key x) with
  | false => rfl
  | true =>
    rcases lex_neg _ (key y) _ h with h | h
    · rw [a2] at h; cases h
    · rw [a1] at h; cases h
end
section
variable {α : Type} [Inhabited α] {lt : α → α → Bool}
/-- where one more goes: behind all that it isn't ahead of, looked at from the end -/
def posR (lt : α → α → Bool) (f : α) (out : List α) : Nat → Nat
  | 0 => 0
  | n + 1 => if lt f out[n]! then posR lt f out n else n + 1
theorem posR_list (tr : ∀ x y z, leq lt x y = true → leq lt y z = true → leq lt x z = true) (f : α) (out : List α) (hs : Sd lt out) : ∀ n, n ≤ out.length → (∀ y ∈ out.drop n, leq lt y f = false) →
    out.take (posR lt f out n) ++ f :: out.drop (posR lt f out n) = mrg (leq lt) out [f]
  | n, hn, hd => by
    have fin : ∀ p, p ≤ out.length → (∀ y ∈ out.drop p, leq lt y f = false) → (∀ y ∈ out.take p, leq lt y f = true) → out.take p ++ f :: out.drop p = mrg (leq lt) out [f] := fun p hp h1 h2 => by
      have := mrg_split (le := leq lt) _ (out.take p) (out.drop p) [] [f] (Nat.le_refl _) (fun x hx z hz => by rw [List.mem_singleton.1 hz]; exact h2 x hx) (fun _ h => by cases h)
      rw [List.take_append_drop, List.nil_append, mrg_nil_right] at this
      rw [this]
      cases hq : out.drop p with
      | nil => rw [mrg_nil_left]
      | cons y t => rw [mrg_cons, if_neg (by rw [h1 y (by rw [hq]; simp)]; simp), mrg_nil_right]
    induction n with
    | zero => exact fin 0 (Nat.zero_le _) hd (fun y hy => by cases hy)
    | succ n ih =>
      have hlt : n < out.length := by omega
      have e : out[n]! = out[n] := getElem!_pos out n hlt
      unfold posR
      rw [e]
      cases h : lt f out[n] with
      | true =>
        rw [if_pos rfl]
        refine ih (by omega) (fun y hy => ?_)
        rw [List.drop_eq_getElem_cons hlt] at hy
        rcases List.mem_cons.1 hy with rfl | hy
        · unfold leq; rw [h]; rfl
        · exact hd y hy
      | false =>
        rw [if_neg (by simp)]
        refine fin (n + 1) hn hd ?_
        have e2 : out.take (n + 1) = out.take n ++ [out[n]] := by rw [List.take_add_one, List.getElem?_eq_getElem hlt]; rfl
        rw [e2]
        refine sd_last tr ?_ (by unfold leq; rw [h]; rfl)
        rw [← e2]
        exact hs.sublist (List.take_sublist _ _)
end
end Go.Proofs.YtbcbmmlpgdndpaaDoor.St
end
