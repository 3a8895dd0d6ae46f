/- A form's texts, plain: a text by the form's set, its %20 as a plus; what goes in pieces. -/
import Derived.Test.YtbcbmmlpgdndpaaDoorSB5
import Derived.Test.YtbcbmmlpgdndpaaDoorSRepl
set_option linter.unusedSimpArgs false
set_option linter.unusedVariables false
namespace Go.Proofs.YtbcbmmlpgdndpaaDoor.Qu
open Go.Lib Go.Proofs.YtbcbmmlpgdndpaaDoor.P1 Go.Proofs.YtbcbmmlpgdndpaaDoor.Rp
/-- a byte of a form's text -/
def qb (c : UInt8) : List UInt8 := if c = 32 then [43] else encByte 8 c
def quL (l : List UInt8) : List UInt8 := l.flatMap qb
theorem qb_tab : ∀ c : Fin 256, (encByte 8 c.val.toUInt8 = [37, 50, 48] ∧ qb c.val.toUInt8 = [43]) ∨ (encByte 8 c.val.toUInt8 = qb c.val.toUInt8 ∧ ((encByte 8 c.val.toUInt8 = [c.val.toUInt8] ∧ c.val.toUInt8 ≠ 37) ∨ (encByte 8 c.val.toUInt8 = [37, hexU (c.val / 16), hexU (c.val % 16)] ∧ hexU (c.val / 16) ≠ 37 ∧ hexU (c.val % 16) ≠ 37 ∧ [hexU (c.val / 16), hexU (c.val % 16)] ≠ [50, 48]))) := by decide +kernel
theorem qb_cases (c : UInt8) : (encByte 8 c = [37, 50, 48] ∧ qb c = [43]) ∨ (encByte 8 c = qb c ∧ ((∃ b, encByte 8 c = [b] ∧ b ≠ 37) ∨ (∃ r, encByte 8 c = 37 :: r ∧ r.length = 2 ∧ 37 ∉ r ∧ r ≠ [50, 48]))) := by
  have h := qb_tab ⟨c.toNat, c.toNat_lt⟩
  simp only [Nat.toUInt8, UInt8.ofNat_toNat] at h
  rcases h with h | ⟨h, h2 | ⟨h2, h3, h4, h5⟩⟩
  · exact .inl h
  · exact .inr ⟨h, .inl ⟨_, h2⟩⟩
  · exact .inr ⟨h, .inr ⟨_, h2, rfl, by simp only [List.mem_cons, List.not_mem_nil, or_false, not_or]; exact ⟨Ne.symm h3, Ne.symm h4⟩, h5⟩⟩
/-- what the program writes is, byte by byte, what the document writes -/
theorem qu_text (l : List UInt8) : replaceAll (encL 8 l) [37, 50, 48] [43] = quL l :=
  rep_pieces [37, 50, 48] [43] 37 [50, 48] rfl (by decide) (encByte 8) qb (fun c => by
    rcases qb_cases c with h | ⟨h, h2⟩
    · exact .inl h
    · exact .inr ⟨h, h2⟩) l
theorem quL_cons (c : UInt8) (l : List UInt8) : quL (c :: l) = qb c ++ quL l := by simp [quL]
theorem qb_length (c : UInt8) : (qb c).length ≤ 3 := by
  unfold qb
  split
  · simp
  · exact encByte_length 8 c
theorem quL_length (l : List UInt8) : (quL l).length ≤ 3 * l.length := by
  induction l with
  | nil => simp [quL]
  | cons c l ih => have := qb_length c; rw [quL_cons, List.length_append, List.length_cons]; omega
/-- a plus is read as a blank -/
def unq (l : List UInt8) : List UInt8 := l.map fun b => if b = 43 then 32 else b
theorem un_text (s : List UInt8) : replaceAll s [43] [32] = unq s := rep_byte 43 32 (by decide) s
theorem unq_length (l : List UInt8) : (unq l).length = l.length := by simp [unq]
/-- what stands ahead of the first sign, and behind it -/
def atB (c : UInt8) : List UInt8 → List UInt8 × List UInt8
  | [] => ([], [])
  | b :: t => if b = c then ([], t) else ((b :: (atB c t).1), (atB c t).2)
/-- a form's text and its reading -/
def prt : List (List UInt8 × List UInt8) → List UInt8
  | [] => []
  | [p] => quL p.1 ++ 61 :: quL p.2
  | p :: q :: r => (quL p.1 ++ 61 :: quL p.2) ++ 38 :: prt (q :: r)
end Go.Proofs.YtbcbmmlpgdndpaaDoor.Qu
