/- strings.ReplaceAll, plain: from the left, instance by instance; at one byte it is a map. -/
import Derived.Lib.Replace
import Derived.Lib.CountLaws
set_option linter.unusedSimpArgs false
set_option linter.unusedVariables false
namespace Go.Proofs.YtbcbmmlpgdndpaaDoor.Rp
open Go.Lib
theorem rep_nil (old new : List UInt8) (h : old ≠ []) : replaceAll [] old new = [] := by
  have hi : index [] old = -1 := by
    show (if old.isEmpty then (0 : Int) else -1) = -1
    cases old with
    | nil => exact absurd rfl h
    | cons a b => rfl
  unfold replaceAll replace
  split
  · rfl
  · unfold replaceNum
    rw [if_pos (.inl (by decide)), count_miss hi]
    rfl
theorem rep_hit (old new s : List UInt8) (h : old ≠ []) (hn : old ≠ new) (hp : old.isPrefixOf s = true) : replaceAll s old new = new ++ replaceAll (s.drop old.length) old new := by
  have hi : index s old = ((0 : Nat) : Int) := by
    cases s with
    | nil =>
      cases old with
      | nil => exact absurd rfl h
      | cons a b => cases hp
    | cons a t =>
      show (if old.isPrefixOf (a :: t) = true then (0 : Int) else _) = 0
      rw [if_pos hp]
  have hne : ¬ (old == new) = true := by simpa using hn
  unfold replaceAll replace
  rw [if_neg hne, if_neg hne]
  unfold replaceNum
  rw [if_pos (.inl (by decide)), if_pos (.inl (by decide)), count_hit h hi, Nat.zero_add, Nat.add_comm, replaceK_hit old new _ s 0 hi, Nat.zero_add]
  simp
theorem rep_miss (old new : List UInt8) (b : UInt8) (t : List UInt8) (h : old ≠ []) (hn : old ≠ new) (hp : old.isPrefixOf (b :: t) = false) : replaceAll (b :: t) old new = b :: replaceAll t old new := by
  have hne : ¬ (old == new) = true := by simpa using hn
  have hi : index (b :: t) old = if index t old == -1 then -1 else index t old + 1 := by
    show (if old.isPrefixOf (b :: t) = true then (0 : Int) else _) = _
    rw [if_neg (by rw [hp]; simp)]
  unfold replaceAll replace
  rw [if_neg hne, if_neg hne]
  unfold replaceNum
  rw [if_pos (.inl (by decide)), if_pos (.inl (by decide))]
  have hge := index_ge t old
  by_cases hm : index t old = -1
  · rw [if_pos (by simpa using hm)] at hi
    rw [count_miss hi, count_miss hm]
    rfl
  · obtain ⟨i, hi2⟩ : ∃ i : Nat, index t old = i := ⟨(index t old).toNat, by omega⟩
    rw [if_neg (by simpa using hm), hi2] at hi
    have hi' : index (b :: t) old = ((i + 1 : Nat) : Int) := by rw [hi]; omega
    rw [count_hit h hi', count_hit h hi2, Nat.add_comm 1, Nat.add_comm 1, replaceK_hit old new _ _ _ hi', replaceK_hit old new _ _ _ hi2]
    have e : (b :: t).drop (i + 1 + old.length) = t.drop (i + old.length) := by rw [show i + 1 + old.length = (i + old.length) + 1 by omega]; rfl
    rw [e]
    simp
/-- one byte for another -/
theorem rep_byte (c e : UInt8) (h : c ≠ e) : ∀ s : List UInt8, replaceAll s [c] [e] = s.map fun b => if b = c then e else b
  | [] => rep_nil _ _ (by simp)
  | b :: t => by
    by_cases hb : b = c
    · subst hb
      rw [rep_hit [b] [e] (b :: t) (by simp) (by simpa using h) (by simp [List.isPrefixOf])]
      show [e] ++ replaceAll t [b] [e] = _
      rw [rep_byte b e h t]
      simp
    · rw [rep_miss [c] [e] b t (by simp) (by simpa using h) (by simp [List.isPrefixOf]; exact fun e => hb e.symm), rep_byte c e h t]
      simp [hb]
/-- pieces that begin with the mark m where they are instances, and hold it nowhere else -/
theorem rep_pieces (old new : List UInt8) (m : UInt8) (rest : List UInt8) (ho : old = m :: rest) (hn : old ≠ new) {β : Type} (f : β → List UInt8) (g : β → List UInt8)
    (hf : ∀ x, (f x = old ∧ g x = new) ∨ (f x = g x ∧ ((∃ b, f x = [b] ∧ b ≠ m) ∨ (∃ r, f x = m :: r ∧ r.length = rest.length ∧ m ∉ r ∧ r ≠ rest)))) : ∀ l : List β, replaceAll (l.flatMap f) old new = l.flatMap g
  | [] => rep_nil _ _ (by rw [ho]; simp)
  | x :: l => by
    have hne : old ≠ [] := by rw [ho]; simp
    have ih := rep_pieces old new m rest ho hn f g hf l
    rw [List.flatMap_cons, List.flatMap_cons]
    rcases hf x with ⟨h1, h2⟩ | ⟨h1, h2⟩
    · rw [h1, h2, rep_hit old new _ hne hn (by rw [List.isPrefixOf_iff_prefix]; exact List.prefix_append _ _), List.drop_left, ih]
    · rw [← h1]
      have plain : ∀ (r z : List UInt8), m ∉ r → replaceAll (r ++ z) old new = r ++ replaceAll z old new := fun r => by
        induction r with
        | nil => intro z _; rfl
        | cons b r ihr =>
          intro z hm
          have hb : b ≠ m := fun e => hm (by simp [e])
          rw [List.cons_append, rep_miss old new b (r ++ z) hne hn (by rw [ho]; simp [List.isPrefixOf]; exact fun e => absurd e.symm hb), ihr z (fun h => hm (by simp [h]))]
          rfl
      rcases h2 with ⟨b, hb, hbm⟩ | ⟨r, hr, hl, hm, hrr⟩
      · rw [hb, plain [b] _ (by simpa using fun e => hbm e.symm), ih]
      · rw [hr, List.cons_append, rep_miss old new m _ hne hn ?_, plain r _ hm, ih]
        · rfl
        · rw [ho, Bool.eq_false_iff]
          intro hp
          rw [List.isPrefixOf_iff_prefix] at hp
          have h3 := (List.cons_prefix_cons.1 hp).2
          have h4 := List.prefix_iff_eq_take.1 h3
          rw [← hl, List.take_left] at h4
          exact hrr h4.symm
end Go.Proofs.YtbcbmmlpgdndpaaDoor.Rp
