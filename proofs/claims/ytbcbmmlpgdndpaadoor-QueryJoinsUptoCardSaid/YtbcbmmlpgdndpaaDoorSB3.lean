/- Texts as lists of bytes: how the printed functions' words read at ⟨l.toArray⟩. -/
/- strings.ReplaceAll, plain: from the left, instance by instance; at one byte it is a map. -/
import Derived.Test.YtbcbmmlpgdndpaaDoorSB4
import Derived.PlainAid
import Derived.Laws.BytesArg
import Derived.Lib.Replace
import Derived.Lib.CountLaws
section
set_option linter.unusedSimpArgs false
set_option linter.unusedVariables false
namespace Go.Proofs.YtbcbmmlpgdndpaaDoor.Q
open Go.RowKit Go.Proofs.YtbcbmmlpgdndpaaDoorW.PrintWords Go.Proofs.YtbcbmmlpgdndpaaDoorW.PrintLast Go.Proofs.YtbcbmmlpgdndpaaDoorW.PrintMore Go.Proofs.YtbcbmmlpgdndpaaDoor.P1
def B (l : List UInt8) : ByteArray := ⟨l.toArray⟩
theorem B_ex (s : ByteArray) : ∃ l, s = B l := ⟨s.data.toList, rfl⟩
theorem B_data (l : List UInt8) : (B l).data.toList = l := rfl
theorem B_size (l : List UInt8) : (B l).size = l.length := rfl
theorem B_toList (l : List UInt8) : (B l).toList = l := by rw [Go.ByteArray.toList_eq]; rfl
theorem B_inj {a b : List UInt8} (h : B a = B b) : a = b := by have := congrArg (fun s => s.data.toList) h; exact this
theorem B_append (a b : List UInt8) : B a ++ B b = B (a ++ b) := by
  apply ByteArray.ext; simp [B]
theorem B_bt (l : List UInt8) (i : Int) : bt (B l) i = ((l.getD i.toNat 0).toNat : Int) := by
  unfold bt
  by_cases h : i.toNat < l.length
  · rw [dif_pos (by rw [B_size]; exact h), List.getD_eq_getElem?_getD, List.getElem?_eq_getElem h]; rfl
  · rw [dif_neg (by rw [B_size]; exact h), List.getD_eq_getElem?_getD, List.getElem?_eq_none (by omega)]; rfl
theorem B_extract (l : List UInt8) (a b : Nat) : (B l).extract a b = B ((l.drop a).take (b - a)) := by
  apply ByteArray.ext
  simp [B, ByteArray.data_extract]
theorem B_extract_end (l : List UInt8) (a : Nat) : (B l).extract a (B l).size = B (l.drop a) := by
  rw [B_extract, B_size, List.take_of_length_le (by simp)]
def ns (l : List UInt8) : List Int := l.map fun c => (c.toNat : Int)
theorem ns_nil : ns [] = [] := rfl
theorem ns_cons (c : UInt8) (l : List UInt8) : ns (c :: l) = (c.toNat : Int) :: ns l := rfl
theorem ns_append (a b : List UInt8) : ns (a ++ b) = ns a ++ ns b := by simp [ns]
theorem ns_length (a : List UInt8) : (ns a).length = a.length := by simp [ns]
theorem strOf_ns (l : List UInt8) : strOfNums (ns l) = B l := by
  unfold strOfNums ns B
  rw [List.map_map]
  congr 1
  congr 1
  conv => rhs; rw [← List.map_id l]
  apply List.map_congr_left
  intro c _
  simp
theorem u8_lt (c : UInt8) : (c.toNat : Int) < 256 := by have := c.toNat_lt; omega
/-- a byte out of its number -/
theorem u8_of (n : Nat) (h : n < 256) : (n.toUInt8).toNat = n := by simp; omega
theorem all_u8 {p : Int → Prop} (h : ∀ b : Fin 256, p (b.val : Int)) (c : UInt8) : p (c.toNat : Int) := h ⟨c.toNat, c.toNat_lt⟩
theorem w64 {i : Int} (h0 : -9223372036854775808 ≤ i) (h1 : i ≤ 9223372036854775807) : wrap64 i = i := by unfold wrap64; omega
/-- Fuel: from some number of rounds on the answer is r. -/
theorem Ev.mk {α : Type} {g : Nat → Option α} {r : α} (K : Nat) (h : ∀ k, K ≤ k → g k = some r) : Ev g r := ⟨K, h⟩
theorem Ev.ite_pos {α : Type} {c : Prop} [Decidable c] {g f : Nat → Option α} {r : α} (hc : c) (k : Ev g r) : Ev (fun n => if c then g n else f n) r := k.congr (fun _ => if_pos hc)
theorem Ev.ite_neg {α : Type} {c : Prop} [Decidable c] {g f : Nat → Option α} {r : α} (hc : ¬ c) (k : Ev f r) : Ev (fun n => if c then g n else f n) r := k.congr (fun _ => if_neg hc)
/-- one more round -/
theorem Ev.succ {α : Type} {g f : Nat → Option α} {r : α} (h : ∀ k, g (k + 1) = f k) (k : Ev f r) : Ev g r := k.step h
theorem at_more {α : Type} {g : Nat → Option α} (hg : ∀ k, LeO (g k) (g (k + 1))) {k m : Nat} {r : α} (h : k ≤ m) (hk : g k = some r) : g m = some r := at_rounds hg h hk
theorem Ev.const {α : Type} {g : Option α} {r : α} (h : g = some r) : Ev (fun _ => g) r := Ev.mk 0 fun _ _ => h
theorem w32 {i : Int} (h0 : -2147483648 ≤ i) (h1 : i ≤ 2147483647) : wrap32 i = i := by unfold wrap32; omega
end Go.Proofs.YtbcbmmlpgdndpaaDoor.Q
end
section
set_option linter.unusedSimpArgs false
set_option linter.unusedVariables false
namespace Go.Proofs.YtbcbmmlpgdndpaaDoor.Rp
open Go.Lib
theorem rep_nil (old new : List UInt8) (h : old ≠ []) : replaceAll [] old new = [] := by
  have hi : index [] old = -1 := by
    show (if old.isEmpty then (0 : Int) else -1) = -1
    cases old with
    | nil => exact absurd rfl h
    | cons a b => rfl
  unfold replaceAll replace
  split
  · rfl
  · unfold replaceNum
    rw [if_pos (.inl (by decide)), count_miss hi]
    rfl
theorem rep_hit (old new s : List UInt8) (h : old ≠ []) (hn : old ≠ new) (hp : old.isPrefixOf s = true) : replaceAll s old new = new ++ replaceAll (s.drop old.length) old new := by
  have hi : index s old = ((0 : Nat) : Int) := by
    cases s with
    | nil =>
      cases old with
      | nil => exact absurd rfl h
      | cons a b => cases hp
    | cons a t =>
      show (if old.isPrefixOf (a :: t) = true then (0 : Int) else _) = 0
      rw [if_pos hp]
  have hne : ¬ (old == new) = true := by simpa using hn
  unfold replaceAll replace
  rw [if_neg hne, if_neg hne]
  unfold replaceNum
  rw [if_pos (.inl (by decide)), if_pos (.inl (by decide)), count_hit h hi, Nat.zero_add, Nat.add_comm, replaceK_hit old new _ s 0 hi, Nat.zero_add]
  simp
theorem rep_miss (old new : List UInt8) (b : UInt8) (t : List UInt8) (h : old ≠ []) (hn : old ≠ new) (hp : old.isPrefixOf (b :: t) = false) : replaceAll (b :: t) old new = b :: replaceAll t old new := by
  have hne : ¬ (old == new) = true := by simpa using hn
  have hi : index (b :: t) old = if index t old == -1 then -1 else index t old + 1 := by
    show (if old.isPrefixOf (b :: t) = true then (0 : Int) else _) = _
    rw [if_neg (by rw [hp]; simp)]
  unfold replaceAll replace
  rw [if_neg hne, if_neg hne]
  unfold replaceNum
  rw [if_pos (.inl (by decide)), if_pos (.inl (by decide))]
  have hge := index_ge t old
  by_cases hm : index t old = -1
  · rw [if_pos (by simpa using hm)] at hi
    rw [count_miss hi, count_miss hm]
    rfl
  · obtain ⟨i, hi2⟩ : ∃ i : Nat, index t old = i := ⟨(index t old).toNat, by omega⟩
    rw [if_neg (by simpa using hm), hi2] at hi
    have hi' : index (b :: t) old = ((i + 1 : Nat) : Int) := by rw [hi]; omega
    rw [count_hit h hi', count_hit h hi2, Nat.add_comm 1, Nat.add_comm 1, replaceK_hit old new _ _ _ hi', replaceK_hit old new _ _ _ hi2]
    have e : (b :: t).drop (i + 1 + old.length) = t.drop (i + old.length) := by rw [show i + 1 + old.length = (i + old.length) + 1 by omega]; rfl
    rw [e]
    simp
/-- one byte for another -/
theorem rep_byte (c e : UInt8) (h : c ≠ e) : ∀ s : List UInt8, replaceAll s [c] [e] = s.map fun b => if b = c then e else b
  | [] => rep_nil _ _ (by simp)
  | b :: t => by
    by_cases hb : b = c
    · subst hb
      rw [rep_hit [b] [e] (b :: t) (by simp) (by simpa using h) (by simp [List.isPrefixOf])]
      show [e] ++ replaceAll t [b] [e] = _
      rw [rep_byte b e h t]
      simp
    · rw [rep_miss [c] [e] b t (by simp) (by simpa using h) (by simp [List.isPrefixOf]; exact fun e => hb e.symm), rep_byte c e h t]
      simp [hb]
/-- pieces that begin with the mark m where they are instances, and hold it nowhere else -/
theorem rep_pieces (old new : List UInt8) (m : UInt8) (rest : List UInt8) (ho : old = m :: rest) (hn : old ≠ new) {β : Type} (f : β → List UInt8) (g : β → List UInt8)
    (hf : ∀ x, (f x = old ∧ g x = new) ∨ (f x = g x ∧ ((∃ b, f x = [b] ∧ b ≠ m) ∨ (∃ r, f x = m :: r ∧ r.length = rest.length ∧ m ∉ r ∧ r ≠ rest)))) : ∀ l : List β, replaceAll (l.flatMap f) old new = l.flatMap g
  | [] => rep_nil _ _ (by rw [ho]; simp)
  | x :: l => by
    have hne : old ≠ [] := by rw [ho]; simp
    have ih := rep_pieces old new m rest ho hn f g hf l
    rw [List.flatMap_cons, List.flatMap_cons]
    rcases hf x with ⟨h1, h2⟩ | ⟨h1, h2⟩
    · rw [h1, h2, rep_hit old new _ hne hn (by rw [List.isPrefixOf_iff_prefix]; exact List.prefix_append _ _), List.drop_left, ih]
    · rw [← h1]
      have plain : ∀ (r z : List UInt8), m ∉ r → replaceAll (r ++ z) old new = r ++ replaceAll z old new := fun r => by
        induction r with
        | nil => intro z _; rfl
        | cons b r ihr =>
          intro z hm
          have hb : b ≠ m := fun e => hm (by simp [e])
          rw [List.cons_append, rep_miss old new b (r ++ z) hne hn (by rw [ho]; simp [List.isPrefixOf]; exact fun e => absurd e.symm hb), ihr z (fun h => hm (by simp [h]))]
          rfl
      rcases h2 with ⟨b, hb, hbm⟩ | ⟨r, hr, hl, hm, hrr⟩
      · rw [hb, plain [b] _ (by simpa using fun e => hbm e.symm), ih]
      · rw [hr, List.cons_append, rep_miss old new m _ hne hn ?_, plain r _ hm, ih]
        · rfl
        · rw [ho, Bool.eq_false_iff]
          intro hp
          rw [List.isPrefixOf_iff_prefix] at hp
          have h3 := (List.cons_prefix_cons.1 hp).2
          have h4 := List.prefix_iff_eq_take.1 h3
          rw [← hl, List.take_left] at h4
          exact hrr h4.symm
end Go.Proofs.YtbcbmmlpgdndpaaDoor.Rp
end
