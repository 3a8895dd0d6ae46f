/- utf.Valid, and unicode/utf8.DecodeRuneInString, at every text, where the library's two tables stand. -/
/- strings.ReplaceAll, plain: from the left, instance by instance; at one byte it is a map. -/
import Derived.Test.YtbcbmmlpgdndpaaDoorSB3
import Derived.Shelf.Unicode.ValidAny
import Derived.Shelf.Unicode.DecodeAny
import Derived.WalkKit
import Derived.OwnWalk
import Derived.Lib.Replace
import Derived.Lib.CountLaws
section
namespace Go.Proofs.YtbcbmmlpgdndpaaDoor.Q
open Go.RowKit
/-- the two tables of unicode/utf8 -/
def U8T (w : World) : Prop := Lib.Utf8Tabs 0 1 w
theorem U8T.below {w w' : World} (h : U8T w) (hb : Below w.heap.size w w') : U8T w' := by
  have lt : ∀ (p : Addr) (v : Value), w.cell? p = some v → p.block < w.heap.size := by
    intro p v hp
    rcases Nat.lt_or_ge p.block w.heap.size with h' | h'
    · exact h'
    · simp [World.cell?, Array.getElem?_eq_none h'] at hp
  refine ⟨fun c hc => ?_, fun i hi => ⟨?_, ?_⟩⟩
  · rw [hb.cell (lt _ _ (h.1 c hc))]; exact h.1 c hc
  · rw [hb.cell (lt _ _ (h.2 i hi).1)]; exact (h.2 i hi).1
  · rw [hb.cell (lt _ _ (h.2 i hi).2)]; exact (h.2 i hi).2
end Go.Proofs.YtbcbmmlpgdndpaaDoor.Q
namespace Go.Proofs
open Go.Shelf Go.RowKit
def Tryd.lays196_ren : Go.Shelf.Ren := ⟨fun | 196 => 34 | 259 => 55 | n => n, fun | 0 => 0 | 3 => 3 | 4 => 4 | 5 => 5 | 9 => 9 | 12 => 12 | 46 => 86 | 53 => 102 | 119 => 82 | 138 => 84 | 139 => 85 | n => n, fun | 3 => 0 | 4 => 1 | n => n⟩
theorem Tryd.lays196 : Go.Proofs.Lays.n196 Tryd.prog Tryd.lays196_ren := {
  mixed := by kernel_rfl
  f196 := Tryd.func34.trans (congrArg some (by kernel_rfl))
  f259 := Tryd.func55.trans (congrArg some (by kernel_rfl))
  t0 := Tryd.underlying0
  a0 := Tryd.isAgg0
  z0 := Tryd.sizeOf0
  v0 := Tryd.zeroValue0
  t3 := Tryd.underlying3
  a3 := Tryd.isAgg3
  z3 := Tryd.sizeOf3
  v3 := Tryd.zeroValue3
  t4 := Tryd.underlying4
  a4 := Tryd.isAgg4
  z4 := Tryd.sizeOf4
  v4 := Tryd.zeroValue4
  t5 := Tryd.underlying5
  a5 := Tryd.isAgg5
  z5 := Tryd.sizeOf5
  v5 := Tryd.zeroValue5
  t9 := Tryd.underlying9
  a9 := Tryd.isAgg9
  z9 := Tryd.sizeOf9
  v9 := Tryd.zeroValue9
  t12 := Tryd.underlying12
  a12 := Tryd.isAgg12
  z12 := Tryd.sizeOf12
  v12 := Tryd.zeroValue12
  t46 := Tryd.underlying86
  a46 := Tryd.isAgg86
  z46 := Tryd.sizeOf86
  v46 := Tryd.zeroValue86
  t53 := Tryd.underlying102
  a53 := Tryd.isAgg102
  z53 := Tryd.sizeOf102
  v53 := Tryd.zeroValue102
  t119 := Tryd.underlying82
  a119 := Tryd.isAgg82
  z119 := Tryd.sizeOf82
  t138 := Tryd.underlying84
  a138 := Tryd.isAgg84
  z138 := Tryd.sizeOf84
  v138 := Tryd.zeroValue84
  t139 := Tryd.underlying85
  a139 := Tryd.isAgg85
  z139 := Tryd.sizeOf85
  v139 := Tryd.zeroValue85
  g3 := by kernel_rfl
  g4 := by kernel_rfl }
def Tryd.lays197_ren : Go.Shelf.Ren := ⟨fun | 197 => 70 | 260 => 86 | n => n, fun | 0 => 0 | 3 => 3 | 4 => 4 | 5 => 5 | 9 => 9 | 21 => 21 | 46 => 86 | 105 => 97 | 119 => 82 | 138 => 84 | 139 => 85 | n => n, fun | 3 => 0 | 4 => 1 | n => n⟩
theorem Tryd.lays197 : Go.Proofs.Lays.n197 Tryd.prog Tryd.lays197_ren := {
  mixed := by kernel_rfl
  f197 := Tryd.func70.trans (congrArg some (by kernel_rfl))
  f260 := Tryd.func86.trans (congrArg some (by kernel_rfl))
  t0 := Tryd.underlying0
  a0 := Tryd.isAgg0
  z0 := Tryd.sizeOf0
  v0 := Tryd.zeroValue0
  t3 := Tryd.underlying3
  a3 := Tryd.isAgg3
  z3 := Tryd.sizeOf3
  v3 := Tryd.zeroValue3
  t4 := Tryd.underlying4
  a4 := Tryd.isAgg4
  z4 := Tryd.sizeOf4
  v4 := Tryd.zeroValue4
  t5 := Tryd.underlying5
  a5 := Tryd.isAgg5
  z5 := Tryd.sizeOf5
  v5 := Tryd.zeroValue5
  t9 := Tryd.underlying9
  a9 := Tryd.isAgg9
  z9 := Tryd.sizeOf9
  v9 := Tryd.zeroValue9
  t21 := Tryd.underlying21
  a21 := Tryd.isAgg21
  z21 := Tryd.sizeOf21
  v21 := Tryd.zeroValue21
  t46 := Tryd.underlying86
  a46 := Tryd.isAgg86
  z46 := Tryd.sizeOf86
  v46 := Tryd.zeroValue86
  t105 := Tryd.underlying97
  a105 := Tryd.isAgg97
  z105 := Tryd.sizeOf97
  v105 := Tryd.zeroValue97
  t119 := Tryd.underlying82
  a119 := Tryd.isAgg82
  z119 := Tryd.sizeOf82
  t138 := Tryd.underlying84
  a138 := Tryd.isAgg84
  z138 := Tryd.sizeOf84
  v138 := Tryd.zeroValue84
  t139 := Tryd.underlying85
  a139 := Tryd.isAgg85
  z139 := Tryd.sizeOf85
  v139 := Tryd.zeroValue85
  g3 := by kernel_rfl
  g4 := by kernel_rfl }
theorem Tryd.validString (s : ByteArray) (w : World) (hs : s.size ≤ 9223372036854775807) (hT : YtbcbmmlpgdndpaaDoor.Q.U8T w) :
    Calls Tryd.prog 34 #[.string s] w fun e w' => e = .returned (.bool (Lib.validD s.data.toList)) ∧ Below w.heap.size w w' :=
  Any.utf8_ValidString Tryd.lays196 s w hs hT
theorem Tryd.decodeRune (s : ByteArray) (w : World) (hT : YtbcbmmlpgdndpaaDoor.Q.U8T w) :
    Calls Tryd.prog 70 #[.string s] w fun e w' => e = .returned (.tuple #[.int .i32 (Lib.decodeGo s).1, .int .i64 (Lib.decodeGo s).2]) ∧ Below w.heap.size w w' :=
  Any.utf8_DecodeRuneInString Tryd.lays197 s w hT
end Go.Proofs
namespace Go.Proofs.YtbcbmmlpgdndpaaDoor.Q
open Go.RowKit
def utf_Valid.f (a0 : ByteArray) : Option Bool := if a0.size ≤ 9223372036854775807 then some (Lib.validD a0.data.toList) else none
theorem utf_Valid.calls (a0 : ByteArray) (r : Bool) (w : World) (hT : UTabs w) (h : utf_Valid.f a0 = some r) :
    Calls Tryd.prog 15 #[.string a0] w fun e w' => e = .returned (.bool r) ∧ Below w.heap.size w w' := by
  unfold utf_Valid.f at h
  split at h
  · rename_i hs
    obtain rfl := Option.some.inj h
    clear h
    go_enter Tryd.func15, Tryd.ntmps15
    go_wp2_with (go_at_call 34; refine (Tryd.validString _ _ hs hT.u8).mono ?_; rintro e w1 ⟨rfl, hb⟩)
    go_ret
    exact ⟨rfl, hb⟩
  · cases h
end Go.Proofs.YtbcbmmlpgdndpaaDoor.Q
end
section
set_option linter.unusedSimpArgs false
set_option linter.unusedVariables false
namespace Go.Proofs.YtbcbmmlpgdndpaaDoor.Rp
open Go.Lib
theorem rep_nil (old new : List UInt8) (h : old ≠ []) : replaceAll [] old new = [] := by
  have hi : index [] old = -1 := by
    show (if old.isEmpty then (0 : Int) else -1) = -1
    cases old with
    | nil => exact absurd rfl h
    | cons a b => rfl
  unfold replaceAll replace
  split
  · rfl
  · unfold replaceNum
    rw [if_pos (.inl (by decide)), count_miss hi]
    rfl
theorem rep_hit (old new s : List UInt8) (h : old ≠ []) (hn : old ≠ new) (hp : old.isPrefixOf s = true) : replaceAll s old new = new ++ replaceAll (s.drop old.length) old new := by
  have hi : index s old = ((0 : Nat) : Int) := by
    cases s with
    | nil =>
      cases old with
      | nil => exact absurd rfl h
      | cons a b => cases hp
    | cons a t =>
      show (if old.isPrefixOf (a :: t) = true then (0 : Int) else _) = 0
      rw [if_pos hp]
  have hne : ¬ (old == new) = true := by simpa using hn
  unfold replaceAll replace
  rw [if_neg hne, if_neg hne]
  unfold replaceNum
  rw [if_pos (.inl (by decide)), if_pos (.inl (by decide)), count_hit h hi, Nat.zero_add, Nat.add_comm, replaceK_hit old new _ s 0 hi, Nat.zero_add]
  simp
theorem rep_miss (old new : List UInt8) (b : UInt8) (t : List UInt8) (h : old ≠ []) (hn : old ≠ new) (hp : old.isPrefixOf (b :: t) = false) : replaceAll (b :: t) old new = b :: replaceAll t old new := by
  have hne : ¬ (old == new) = true := by simpa using hn
  have hi : index (b :: t) old = if index t old == -1 then -1 else index t old + 1 := by
    show (if old.isPrefixOf (b :: t) = true then (0 : Int) else _) = _
    rw [if_neg (by rw [hp]; simp)]
  unfold replaceAll replace
  rw [if_neg hne, if_neg hne]
  unfold replaceNum
  rw [if_pos (.inl (by decide)), if_pos (.inl (by decide))]
  have hge := index_ge t old
  by_cases hm : index t old = -1
  · rw [if_pos (by simpa using hm)] at hi
    rw [count_miss hi, count_miss hm]
    rfl
  · obtain ⟨i, hi2⟩ : ∃ i : Nat, index t old = i := ⟨(index t old).toNat, by omega⟩
    rw [if_neg (by simpa using hm), hi2] at hi
    have hi' : index (b :: t) old = ((i + 1 : Nat) : Int) := by rw [hi]; omega
    rw [count_hit h hi', count_hit h hi2, Nat.add_comm 1, Nat.add_comm 1, replaceK_hit old new _ _ _ hi', replaceK_hit old new _ _ _ hi2]
    have e : (b :: t).drop (i + 1 + old.length) = t.drop (i + old.length) := by rw [show i + 1 + old.length = (i + old.length) + 1 by omega]; rfl
    rw [e]
    simp
/-- one byte for another -/
theorem rep_byte (c e : UInt8) (h : c ≠ e) : ∀ s : List UInt8, replaceAll s [c] [e] = s.map fun b => if b = c then e else b
  | [] => rep_nil _ _ (by simp)
  | b :: t => by
    by_cases hb : b = c
    · subst hb
      rw [rep_hit [b] [e] (b :: t) (by simp) (by simpa using h) (by simp [List.isPrefixOf])]
      show [e] ++ replaceAll t [b] [e] = _
      rw [rep_byte b e h t]
      simp
    · rw [rep_miss [c] [e] b t (by simp) (by simpa using h) (by simp [List.isPrefixOf]; exact fun e => hb e.symm), rep_byte c e h t]
      simp [hb]
/-- pieces that begin with the mark m where they are instances, and hold it nowhere else -/
theorem rep_pieces (old new : List UInt8) (m : UInt8) (rest : List UInt8) (ho : old = m :: rest) (hn : old ≠ new) {β : Type} (f : β → List UInt8) (g : β → List UInt8)
    (hf : ∀ x, (f x = old ∧ g x = new) ∨ (f x = g x ∧ ((∃ b, f x = [b] ∧ b ≠ m) ∨ (∃ r, f x = m :: r ∧ r.length = rest.length ∧ m ∉ r ∧ r ≠ rest)))) : ∀ l : List β, replaceAll (l.flatMap f) old new = l.flatMap g
  | [] => rep_nil _ _ (by rw [ho]; simp)
  | x :: l => by
    have hne : old ≠ [] := by rw [ho]; simp
    have ih := rep_pieces old new m rest ho hn f g hf l
    rw [List.flatMap_cons, List.flatMap_cons]
    rcases hf x with ⟨h1, h2⟩ | ⟨h1, h2⟩
    · rw [h1, h2, rep_hit old new _ hne hn (by rw [List.isPrefixOf_iff_prefix]; exact List.prefix_append _ _), List.drop_left, ih]
    · rw [← h1]
      have plain : ∀ (r z : List UInt8), m ∉ r → replaceAll (r ++ z) old new = r ++ replaceAll z old new := fun r => by
        induction r with
        | nil => intro z _; rfl
        | cons b r ihr =>
          intro z hm
          have hb : b ≠ m := fun e => hm (by simp [e])
          rw [List.cons_append, rep_miss old new b (r ++ z) hne hn (by rw [ho]; simp [List.isPrefixOf]; exact fun e => absurd e.symm hb), ihr z (fun h => hm (by simp [h]))]
          rfl
      rcases h2 with ⟨b, hb, hbm⟩ | ⟨r, hr, hl, hm, hrr⟩
      · rw [hb, plain [b] _ (by simpa using fun e => hbm e.symm), ih]
      · rw [hr, List.cons_append, rep_miss old new m _ hne hn ?_, plain r _ hm, ih]
        · rfl
        · rw [ho, Bool.eq_false_iff]
          intro hp
          rw [List.isPrefixOf_iff_prefix] at hp
          have h3 := (List.cons_prefix_cons.1 hp).2
          have h4 := List.prefix_iff_eq_take.1 h3
          rw [← hl, List.take_left] at h4
          exact hrr h4.symm
end Go.Proofs.YtbcbmmlpgdndpaaDoor.Rp
end
