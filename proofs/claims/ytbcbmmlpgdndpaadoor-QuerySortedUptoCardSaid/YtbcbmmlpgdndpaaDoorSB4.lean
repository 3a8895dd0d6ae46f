/- Functions of the given program as plain Lean functions, each with the proof that the machine answers as it does; laid by a program of mine over the kit print. -/
/- strings.ReplaceAll, plain: from the left, instance by instance; at one byte it is a map. -/
import Derived.Test.YtbcbmmlpgdndpaaDoorProg
import Derived.Below
import Derived.Deep.Draws
import Derived.Deep.AppendLies
import Derived.Maps.AppendAt
import Derived.OwnWalk
import Derived.Laws.BytesArg
import Derived.Laws.MakeOwn
import Derived.Laws.OwnMore
import Derived.Deep.OwnRows
import Derived.Tactics
import Derived.Lib.ConvBytes
import Derived.Laws.Slices
import Derived.WalkKit
import Derived.KernelRfl
import Derived.RowKit3
import Derived.Deep.LoopGhost
import Derived.Deep.QuietTactic
import Derived.BigQuiet
import Derived.WideLaws
import Derived.Deep.DeepCutAuto
import Derived.Deep.CutBlock
import Derived.Deep.RegionHeld3
import Derived.Laws.Rows
import Derived.Lib.AppendStr
import Derived.ArgAppend
import Derived.Laws.IdiomCopy
import Derived.OrdersHeld
import Derived.Laws.BitsLemmas
import Derived.RowKit
import Derived.Test.YtbcbmmlpgdndpaaDoorSWWords
import Derived.Test.YtbcbmmlpgdndpaaDoorSWLast
import Derived.Test.YtbcbmmlpgdndpaaDoorSWTab
import Derived.Test.YtbcbmmlpgdndpaaDoorSB11
import Derived.Test.YtbcbmmlpgdndpaaDoorSB2
import Derived.Test.YtbcbmmlpgdndpaaDoorSB1
import Derived.Shelf.Unicode.DecodeSlow
import Derived.Lib.Replace
import Derived.Lib.CountLaws
section
namespace Go.Proofs.YtbcbmmlpgdndpaaDoor.Q
open Go.RowKit Go.Proofs.YtbcbmmlpgdndpaaDoorW.PrintWords Go.Proofs.YtbcbmmlpgdndpaaDoorW.PrintLast Go.Proofs.YtbcbmmlpgdndpaaDoorW.PrintMore
attribute [local go_sem] max2_int min2_int max_two min_two max_three min_three max_four min_four
set_option linter.unusedVariables false
set_option linter.unusedSimpArgs false
def errW : Option Int → Value
  | none => .nilIface
  | some c => .iface 0 (.int .i64 c)
theorem errW_none : errW none = .nilIface := rfl
theorem errW_some (c : Int) : errW (some c) = .iface 0 (.int .i64 c) := rfl
theorem info5 : (Tryd.prog.info? 5).map (fun i => (i.zero, i.size, i.bytes)) = some (some (.int .u8 0), 1, 1) := by kernel_rfl
theorem info9 : (Tryd.prog.info? 9).map (fun i => (i.zero, i.size, i.bytes)) = some (some (.string ⟨#[]⟩), 1, 16) := by kernel_rfl
theorem info32 : (Tryd.prog.info? 32).map (fun i => (i.zero, i.size, i.bytes)) = some (some (.agg #[(.string ⟨#[]⟩), (.string ⟨#[]⟩)]), 2, 32) := by kernel_rfl
theorem info69 : (Tryd.prog.info? 69).map (fun i => (i.zero, i.size, i.bytes)) = some (some (.int .u16 0), 1, 2) := by kernel_rfl
-- the values' own types
structure S32 where
  f0 : ByteArray
  f1 : ByteArray
def z32 : S32 := ⟨(⟨#[]⟩ : ByteArray), (⟨#[]⟩ : ByteArray)⟩
def k32 : Kd S32 := Kd.iso (Kd.pair Kd.string Kd.string) (fun x : S32 => (x.f0, x.f1))
theorem k32_open {w : World} {x : S32} {cs : List Value} (h : k32.K w x cs) : cs = [.string x.f0, .string x.f1] := by
  obtain ⟨_, _, rfl, rfl, rfl⟩ := h
  exact rfl
theorem k32_openM {w : World} {base : Nat} {ok : Nat → Prop} {x : S32} {cs : List Value} (h : k32.M w base ok x cs) : cs = [.string x.f0, .string x.f1] := by
  obtain ⟨_, _, rfl, rfl, rfl⟩ := h
  exact rfl
theorem k32_mkM (w : World) (base : Nat) (ok : Nat → Prop) (x : S32)  : k32.M w base ok x [.string x.f0, .string x.f1] := ⟨[.string x.f0], [.string x.f1], rfl, rfl, rfl⟩
def rd_T32 (xs : List S32) (i : Int) : S32 := xs.getD i.toNat z32
theorem at_T32 {w : World} {A : Option Addr} {n : Nat} {xs : List S32} (h : Kd.C k32 w A n xs) (i : Int) (h0 : 0 ≤ i) (h1 : i < n) : ∃ ad , A = some ad ∧ w.cell? (ad.add (i.toNat * 2)) = some (.string (rd_T32 xs i).f0) ∧ w.cell? ⟨(ad.add (i.toNat * 2)).block, (ad.add (i.toNat * 2)).off + 1, none⟩ = some (.string (rd_T32 xs i).f1) := by
  obtain ⟨ad, c, e, _, hK, hc0⟩ := Kd.C_get h z32 i h0 h1
  have hc : ∀ j u, c[j]? = some u → w.cell? (ad.add (i.toNat * 2 + j)) = some u := hc0
  obtain rfl := k32_open hK
  exact ⟨ad, e, hc 0 _ rfl, by rw [← add_field _ _ 1 (by omega)]; exact hc 1 _ rfl⟩
def UTabs (w : World) : Prop := Lib.Utf8Tabs 0 1 w ∧ (∃ m, w.cell? ⟨2, 0, none⟩ = some (.int .i64 m)) ∧ True
theorem UTabs.below {w w' : World} (h : UTabs w) (hb : Below w.heap.size w w') : UTabs w' := by
  obtain ⟨h, ⟨m, hm⟩, _⟩ := h
  have lt : ∀ (p : Addr) (v : Value), w.cell? p = some v → p.block < w.heap.size := by
    intro p v hp
    rcases Nat.lt_or_ge p.block w.heap.size with h' | h'
    · exact h'
    · simp [World.cell?, Array.getElem?_eq_none h'] at hp
  refine ⟨⟨fun c hc => ?_, fun i hi => ⟨?_, ?_⟩⟩, ⟨m, ?_⟩, trivial⟩
  · rw [hb.cell (lt _ _ (h.1 c hc))]; exact h.1 c hc
  · rw [hb.cell (lt _ _ (h.2 i hi).1)]; exact (h.2 i hi).1
  · rw [hb.cell (lt _ _ (h.2 i hi).2)]; exact (h.2 i hi).2
  · rw [hb.cell (lt _ _ hm)]; exact hm
theorem UTabs.u8 {w : World} (h : UTabs w) : Lib.Utf8Tabs 0 1 w := h.1
theorem cells8 {w : World} {g : Nat} {t : TypeId} {c0 c1 c2 c3 c4 c5 c6 c7 : Value} (h : w.heap[g]? = some (.cells #[c0, c1, c2, c3, c4, c5, c6, c7] t (0, 0))) : w.cell? ⟨g, 0, none⟩ = some c0 ∧ w.cell? ⟨g, 1, none⟩ = some c1 ∧ w.cell? ⟨g, 2, none⟩ = some c2 ∧ w.cell? ⟨g, 3, none⟩ = some c3 ∧ w.cell? ⟨g, 4, none⟩ = some c4 ∧ w.cell? ⟨g, 5, none⟩ = some c5 ∧ w.cell? ⟨g, 6, none⟩ = some c6 ∧ w.cell? ⟨g, 7, none⟩ = some c7 ∧ w.frozen? ⟨g, 0, none⟩ = false ∧ w.frozen? ⟨g, 1, none⟩ = false ∧ w.frozen? ⟨g, 2, none⟩ = false ∧ w.frozen? ⟨g, 3, none⟩ = false ∧ w.frozen? ⟨g, 4, none⟩ = false ∧ w.frozen? ⟨g, 5, none⟩ = false ∧ w.frozen? ⟨g, 6, none⟩ = false ∧ w.frozen? ⟨g, 7, none⟩ = false :=
  ⟨(blk_cell h 0).trans rfl, (blk_cell h 1).trans rfl, (blk_cell h 2).trans rfl, (blk_cell h 3).trans rfl, (blk_cell h 4).trans rfl, (blk_cell h 5).trans rfl, (blk_cell h 6).trans rfl, (blk_cell h 7).trans rfl, blk_frozen h 0, blk_frozen h 1, blk_frozen h 2, blk_frozen h 3, blk_frozen h 4, blk_frozen h 5, blk_frozen h 6, blk_frozen h 7⟩
end Go.Proofs.YtbcbmmlpgdndpaaDoor.Q
end
section
set_option linter.unusedSimpArgs false
set_option linter.unusedVariables false
namespace Go.Proofs.YtbcbmmlpgdndpaaDoor.Rp
open Go.Lib
theorem rep_nil (old new : List UInt8) (h : old ≠ []) : replaceAll [] old new = [] := by
  have hi : index [] old = -1 := by
    show (if old.isEmpty then (0 : Int) else -1) = -1
    cases old with
    | nil => exact absurd rfl h
    | cons a b => rfl
  unfold replaceAll replace
  split
  · rfl
  · unfold replaceNum
    rw [if_pos (.inl (by decide)), count_miss hi]
    rfl
theorem rep_hit (old new s : List UInt8) (h : old ≠ []) (hn : old ≠ new) (hp : old.isPrefixOf s = true) : replaceAll s old new = new ++ replaceAll (s.drop old.length) old new := by
  have hi : index s old = ((0 : Nat) : Int) := by
    cases s with
    | nil =>
      cases old with
      | nil => exact absurd rfl h
      | cons a b => cases hp
    | cons a t =>
      show (if old.isPrefixOf (a :: t) = true then (0 : Int) else _) = 0
      rw [if_pos hp]
  have hne : ¬ (old == new) = true := by simpa using hn
  unfold replaceAll replace
  rw [if_neg hne, if_neg hne]
  unfold replaceNum
  rw [if_pos (.inl (by decide)), if_pos (.inl (by decide)), count_hit h hi, Nat.zero_add, Nat.add_comm, replaceK_hit old new _ s 0 hi, Nat.zero_add]
  simp
theorem rep_miss (old new : List UInt8) (b : UInt8) (t : List UInt8) (h : old ≠ []) (hn : old ≠ new) (hp : old.isPrefixOf (b :: t) = false) : replaceAll (b :: t) old new = b :: replaceAll t old new := by
  have hne : ¬ (old == new) = true := by simpa using hn
  have hi : index (b :: t) old = if index t old == -1 then -1 else index t old + 1 := by
    show (if old.isPrefixOf (b :: t) = true then (0 : Int) else _) = _
    rw [if_neg (by rw [hp]; simp)]
  unfold replaceAll replace
  rw [if_neg hne, if_neg hne]
  unfold replaceNum
  rw [if_pos (.inl (by decide)), if_pos (.inl (by decide))]
  have hge := index_ge t old
  by_cases hm : index t old = -1
  · rw [if_pos (by simpa using hm)] at hi
    rw [count_miss hi, count_miss hm]
    rfl
  · obtain ⟨i, hi2⟩ : ∃ i : Nat, index t old = i := ⟨(index t old).toNat, by omega⟩
    rw [if_neg (by simpa using hm), hi2] at hi
    have hi' : index (b :: t) old = ((i + 1 : Nat) : Int) := by rw [hi]; omega
    rw [count_hit h hi', count_hit h hi2, Nat.add_comm 1, Nat.add_comm 1, replaceK_hit old new _ _ _ hi', replaceK_hit old new _ _ _ hi2]
    have e : (b :: t).drop (i + 1 + old.length) = t.drop (i + old.length) := by rw [show i + 1 + old.length = (i + old.length) + 1 by omega]; rfl
    rw [e]
    simp
/-- one byte for another -/
theorem rep_byte (c e : UInt8) (h : c ≠ e) : ∀ s : List UInt8, replaceAll s [c] [e] = s.map fun b => if b = c then e else b
  | [] => rep_nil _ _ (by simp)
  | b :: t => by
    by_cases hb : b = c
    · subst hb
      rw [rep_hit [b] [e] (b :: t) (by simp) (by simpa using h) (by simp [List.isPrefixOf])]
      show [e] ++ replaceAll t [b] [e] = _
      rw [rep_byte b e h t]
      simp
    · rw [rep_miss [c] [e] b t (by simp) (by simpa using h) (by simp [List.isPrefixOf]; exact fun e => hb e.symm), rep_byte c e h t]
      simp [hb]
/-- pieces that begin with the mark m where they are instances, and hold it nowhere else -/
theorem rep_pieces (old new : List UInt8) (m : UInt8) (rest : List UInt8) (ho : old = m :: rest) (hn : old ≠ new) {β : Type} (f : β → List UInt8) (g : β → List UInt8)
    (hf : ∀ x, (f x = old ∧ g x = new) ∨ (f x = g x ∧ ((∃ b, f x = [b] ∧ b ≠ m) ∨ (∃ r, f x = m :: r ∧ r.length = rest.length ∧ m ∉ r ∧ r ≠ rest)))) : ∀ l : List β, replaceAll (l.flatMap f) old new = l.flatMap g
  | [] => rep_nil _ _ (by rw [ho]; simp)
  | x :: l => by
    have hne : old ≠ [] := by rw [ho]; simp
    have ih := rep_pieces old new m rest ho hn f g hf l
    rw [List.flatMap_cons, List.flatMap_cons]
    rcases hf x with ⟨h1, h2⟩ | ⟨h1, h2⟩
    · rw [h1, h2, rep_hit old new _ hne hn (by rw [List.isPrefixOf_iff_prefix]; exact List.prefix_append _ _), List.drop_left, ih]
    · rw [← h1]
      have plain : ∀ (r z : List UInt8), m ∉ r → replaceAll (r ++ z) old new = r ++ replaceAll z old new := fun r => by
        induction r with
        | nil => intro z _; rfl
        | cons b r ihr =>
          intro z hm
          have hb : b ≠ m := fun e => hm (by simp [e])
          rw [List.cons_append, rep_miss old new b (r ++ z) hne hn (by rw [ho]; simp [List.isPrefixOf]; exact fun e => absurd e.symm hb), ihr z (fun h => hm (by simp [h]))]
          rfl
      rcases h2 with ⟨b, hb, hbm⟩ | ⟨r, hr, hl, hm, hrr⟩
      · rw [hb, plain [b] _ (by simpa using fun e => hbm e.symm), ih]
      · rw [hr, List.cons_append, rep_miss old new m _ hne hn ?_, plain r _ hm, ih]
        · rfl
        · rw [ho, Bool.eq_false_iff]
          intro hp
          rw [List.isPrefixOf_iff_prefix] at hp
          have h3 := (List.cons_prefix_cons.1 hp).2
          have h4 := List.prefix_iff_eq_take.1 h3
          rw [← hl, List.take_left] at h4
          exact hrr h4.symm
end Go.Proofs.YtbcbmmlpgdndpaaDoor.Rp
end
