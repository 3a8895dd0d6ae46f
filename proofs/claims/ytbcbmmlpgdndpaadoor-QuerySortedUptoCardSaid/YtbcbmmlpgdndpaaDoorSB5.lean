/- Texts as lists of bytes: how the printed functions' words read at ⟨l.toArray⟩. -/
/- A form's texts, plain: a text by the form's set, its %20 as a plus; what goes in pieces. -/
import Derived.Test.YtbcbmmlpgdndpaaDoorSB3
import Derived.Test.YtbcbmmlpgdndpaaDoorSB4
import Derived.PlainAid
import Derived.Laws.BytesArg
section
set_option linter.unusedSimpArgs false
set_option linter.unusedVariables false
namespace Go.Proofs.YtbcbmmlpgdndpaaDoor.Q
open Go.RowKit Go.Proofs.YtbcbmmlpgdndpaaDoorW.PrintWords Go.Proofs.YtbcbmmlpgdndpaaDoorW.PrintLast Go.Proofs.YtbcbmmlpgdndpaaDoorW.PrintMore Go.Proofs.YtbcbmmlpgdndpaaDoor.P1
def B (l : List UInt8) : ByteArray := ⟨l.toArray⟩
theorem B_data (l : List UInt8) : (B l).data.toList = l := rfl
theorem B_size (l : List UInt8) : (B l).size = l.length := rfl
theorem B_toList (l : List UInt8) : (B l).toList = l := by rw [Go.ByteArray.toList_eq]; rfl
theorem B_inj {a b : List UInt8} (h : B a = B b) : a = b := by have := congrArg (fun s => s.data.toList) h; exact this
theorem B_bt (l : List UInt8) (i : Int) : bt (B l) i = ((l.getD i.toNat 0).toNat : Int) := by
  unfold bt
  by_cases h : i.toNat < l.length
  · rw [dif_pos (by rw [B_size]; exact h), List.getD_eq_getElem?_getD, List.getElem?_eq_getElem h]; rfl
  · rw [dif_neg (by rw [B_size]; exact h), List.getD_eq_getElem?_getD, List.getElem?_eq_none (by omega)]; rfl
theorem B_extract (l : List UInt8) (a b : Nat) : (B l).extract a b = B ((l.drop a).take (b - a)) := by
  apply ByteArray.ext
  simp [B, ByteArray.data_extract]
theorem B_extract_end (l : List UInt8) (a : Nat) : (B l).extract a (B l).size = B (l.drop a) := by
  rw [B_extract, B_size, List.take_of_length_le (by simp)]
def ns (l : List UInt8) : List Int := l.map fun c => (c.toNat : Int)
theorem ns_cons (c : UInt8) (l : List UInt8) : ns (c :: l) = (c.toNat : Int) :: ns l := rfl
theorem strOf_ns (l : List UInt8) : strOfNums (ns l) = B l := by
  unfold strOfNums ns B
  rw [List.map_map]
  congr 1
  congr 1
  conv => rhs; rw [← List.map_id l]
  apply List.map_congr_left
  intro c _
  simp
/-- a byte out of its number -/
theorem u8_of (n : Nat) (h : n < 256) : (n.toUInt8).toNat = n := by simp; omega
theorem all_u8 {p : Int → Prop} (h : ∀ b : Fin 256, p (b.val : Int)) (c : UInt8) : p (c.toNat : Int) := h ⟨c.toNat, c.toNat_lt⟩
theorem w64 {i : Int} (h0 : -9223372036854775808 ≤ i) (h1 : i ≤ 9223372036854775807) : wrap64 i = i := by unfold wrap64; omega
/-- Fuel: from some number of rounds on the answer is r. -/
theorem Ev.mk {α : Type} {g : Nat → Option α} {r : α} (K : Nat) (h : ∀ k, K ≤ k → g k = some r) : Ev g r := ⟨K, h⟩
theorem Ev.ite_pos {α : Type} {c : Prop} [Decidable c] {g f : Nat → Option α} {r : α} (hc : c) (k : Ev g r) : Ev (fun n => if c then g n else f n) r := k.congr (fun _ => if_pos hc)
/-- one more round -/
theorem Ev.succ {α : Type} {g f : Nat → Option α} {r : α} (h : ∀ k, g (k + 1) = f k) (k : Ev f r) : Ev g r := k.step h
theorem at_more {α : Type} {g : Nat → Option α} (hg : ∀ k, LeO (g k) (g (k + 1))) {k m : Nat} {r : α} (h : k ≤ m) (hk : g k = some r) : g m = some r := at_rounds hg h hk
theorem Ev.const {α : Type} {g : Option α} {r : α} (h : g = some r) : Ev (fun _ => g) r := Ev.mk 0 fun _ _ => h
theorem w32 {i : Int} (h0 : -2147483648 ≤ i) (h1 : i ≤ 2147483647) : wrap32 i = i := by unfold wrap32; omega
end Go.Proofs.YtbcbmmlpgdndpaaDoor.Q
end
section
set_option linter.unusedSimpArgs false
set_option linter.unusedVariables false
namespace Go.Proofs.YtbcbmmlpgdndpaaDoor.Qu
open Go.Lib Go.Proofs.YtbcbmmlpgdndpaaDoor.P1 Go.Proofs.YtbcbmmlpgdndpaaDoor.Rp
/-- a byte of a form's text -/
def qb (c : UInt8) : List UInt8 := if c = 32 then [43] else encByte 8 c
def quL (l : List UInt8) : List UInt8 := l.flatMap qb
theorem qb_tab : ∀ c : Fin 256, (encByte 8 c.val.toUInt8 = [37, 50, 48] ∧ qb c.val.toUInt8 = [43]) ∨ (encByte 8 c.val.toUInt8 = qb c.val.toUInt8 ∧ ((encByte 8 c.val.toUInt8 = [c.val.toUInt8] ∧ c.val.toUInt8 ≠ 37) ∨ (encByte 8 c.val.toUInt8 = [37, hexU (c.val / 16), hexU (c.val % 16)] ∧ hexU (c.val / 16) ≠ 37 ∧ hexU (c.val % 16) ≠ 37 ∧ [hexU (c.val / 16), hexU (c.val % 16)] ≠ [50, 48]))) := by decide +kernel
theorem qb_cases (c : UInt8) : (encByte 8 c = [37, 50, 48] ∧ qb c = [43]) ∨ (encByte 8 c = qb c ∧ ((∃ b, encByte 8 c = [b] ∧ b ≠ 37) ∨ (∃ r, encByte 8 c = 37 :: r ∧ r.length = 2 ∧ 37 ∉ r ∧ r ≠ [50, 48]))) := by
  have h := qb_tab ⟨c.toNat, c.toNat_lt⟩
  simp only [Nat.toUInt8, UInt8.ofNat_toNat] at h
  rcases h with h | ⟨h, h2 | ⟨h2, h3, h4, h5⟩⟩
  · exact .inl h
  · exact .inr ⟨h, .inl ⟨_, h2⟩⟩
  · exact .inr ⟨h, .inr ⟨_, h2, rfl, by simp only [List.mem_cons, List.not_mem_nil, or_false, not_or]; exact ⟨Ne.symm h3, Ne.symm h4⟩, h5⟩⟩
/-- what the program writes is, byte by byte, what the document writes -/
theorem qu_text (l : List UInt8) : replaceAll (encL 8 l) [37, 50, 48] [43] = quL l :=
  rep_pieces [37, 50, 48] [43] 37 [50, 48] rfl (by decide) (encByte 8) qb (fun c => by
    rcases qb_cases c with h | ⟨h, h2⟩
    · exact .inl h
    · exact .inr ⟨h, h2⟩) l
theorem quL_cons (c : UInt8) (l : List UInt8) : quL (c :: l) = qb c ++ quL l := by simp [quL]
theorem qb_length (c : UInt8) : (qb c).length ≤ 3 := by
  unfold qb
  split
  · simp
  · exact encByte_length 8 c
theorem quL_length (l : List UInt8) : (quL l).length ≤ 3 * l.length := by
  induction l with
  | nil => simp [quL]
  | cons c l ih => have := qb_length c; rw [quL_cons, List.length_append, List.length_cons]; omega
/-- a plus is read as a blank -/
def unq (l : List UInt8) : List UInt8 := l.map fun b => if b = 43 then 32 else b
theorem un_text (s : List UInt8) : replaceAll s [43] [32] = unq s := rep_byte 43 32 (by decide) s
theorem unq_length (l : List UInt8) : (unq l).length = l.length := by simp [unq]
/-- what stands ahead of the first sign, and behind it -/
def atB (c : UInt8) : List UInt8 → List UInt8 × List UInt8
  | [] => ([], [])
  | b :: t => if b = c then ([], t) else ((b :: (atB c t).1), (atB c t).2)
/-- a form's text and its reading -/
def prt : List (List UInt8 × List UInt8) → List UInt8
  | [] => []
  | [p] => quL p.1 ++ 61 :: quL p.2
  | p :: q :: r => (quL p.1 ++ 61 :: quL p.2) ++ 38 :: prt (q :: r)
end Go.Proofs.YtbcbmmlpgdndpaaDoor.Qu
end
