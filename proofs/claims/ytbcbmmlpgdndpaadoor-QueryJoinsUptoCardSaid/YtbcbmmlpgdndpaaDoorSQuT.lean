/- A form's texts, plain: a text by the form's set, its %20 as a plus; what goes in pieces. -/
import Derived.Test.YtbcbmmlpgdndpaaDoorSB4
import Derived.Test.YtbcbmmlpgdndpaaDoorSB3
set_option linter.unusedSimpArgs false
set_option linter.unusedVariables false
namespace Go.Proofs.YtbcbmmlpgdndpaaDoor.Qu
open Go.Lib Go.Proofs.YtbcbmmlpgdndpaaDoor.P1 Go.Proofs.YtbcbmmlpgdndpaaDoor.Rp
/-- a byte of a form's text -/
def qb (c : UInt8) : List UInt8 := if c = 32 then [43] else encByte 8 c
def quL (l : List UInt8) : List UInt8 := l.flatMap qb
theorem qb_tab : ∀ c : Fin 256, (encByte 8 c.val.toUInt8 = [37, 50, 48] ∧ qb c.val.toUInt8 = [43]) ∨ (encByte 8 c.val.toUInt8 = qb c.val.toUInt8 ∧ ((encByte 8 c.val.toUInt8 = [c.val.toUInt8] ∧ c.val.toUInt8 ≠ 37) ∨ (encByte 8 c.val.toUInt8 = [37, hexU (c.val / 16), hexU (c.val % 16)] ∧ hexU (c.val / 16) ≠ 37 ∧ hexU (c.val % 16) ≠ 37 ∧ [hexU (c.val / 16), hexU (c.val % 16)] ≠ [50, 48]))) := by decide +kernel
theorem qb_cases (c : UInt8) : (encByte 8 c = [37, 50, 48] ∧ qb c = [43]) ∨ (encByte 8 c = qb c ∧ ((∃ b, encByte 8 c = [b] ∧ b ≠ 37) ∨ (∃ r, encByte 8 c = 37 :: r ∧ r.length = 2 ∧ 37 ∉ r ∧ r ≠ [50, 48]))) := by
  have h := qb_tab ⟨c.toNat, c.toNat_lt⟩
  simp only [Nat.toUInt8, UInt8.ofNat_toNat] at h
  rcases h with h | ⟨h, h2 | ⟨h2, h3, h4, h5⟩⟩
  · exact .inl h
  · exact .inr ⟨h, .inl ⟨_, h2⟩⟩
  · exact .inr ⟨h, .inr ⟨_, h2, rfl, by simp only [List.mem_cons, List.not_mem_nil, or_false, not_or]; exact ⟨Ne.symm h3, Ne.symm h4⟩, h5⟩⟩
/-- what the program writes is, byte by byte, what the document writes -/
theorem qu_text (l : List UInt8) : replaceAll (encL 8 l) [37, 50, 48] [43] = quL l :=
  rep_pieces [37, 50, 48] [43] 37 [50, 48] rfl (by decide) (encByte 8) qb (fun c => by
    rcases qb_cases c with h | ⟨h, h2⟩
    · exact .inl h
    · exact .inr ⟨h, h2⟩) l
theorem quL_nil : quL [] = [] := rfl
theorem quL_cons (c : UInt8) (l : List UInt8) : quL (c :: l) = qb c ++ quL l := by simp [quL]
theorem qb_length (c : UInt8) : (qb c).length ≤ 3 := by
  unfold qb
  split
  · simp
  · exact encByte_length 8 c
theorem quL_length (l : List UInt8) : (quL l).length ≤ 3 * l.length := by
  induction l with
  | nil => simp [quL]
  | cons c l ih => have := qb_length c; rw [quL_cons, List.length_append, List.length_cons]; omega
/-- neither & nor = are in what is written -/
theorem qb_no_tab : ∀ c : Fin 256, (qb c.val.toUInt8).all (fun d => d != 38 && d != 61) = true := by decide +kernel
theorem quL_no (l : List UInt8) : ∀ d ∈ quL l, d ≠ 38 ∧ d ≠ 61 := by
  intro d hd
  simp only [quL, List.mem_flatMap] at hd
  obtain ⟨c, _, hc⟩ := hd
  have h := qb_no_tab ⟨c.toNat, c.toNat_lt⟩
  simp only [Nat.toUInt8, UInt8.ofNat_toNat] at h
  have := List.all_eq_true.1 h d hc
  simpa using this
/-- a plus is read as a blank -/
def unq (l : List UInt8) : List UInt8 := l.map fun b => if b = 43 then 32 else b
theorem un_text (s : List UInt8) : replaceAll s [43] [32] = unq s := rep_byte 43 32 (by decide) s
theorem unq_length (l : List UInt8) : (unq l).length = l.length := by simp [unq]
theorem unq_append (a b : List UInt8) : unq (a ++ b) = unq a ++ unq b := by simp [unq]
/-- what is written, its pluses as blanks: the blank itself, or what stands in the set's text -/
def ub (c : UInt8) : List UInt8 := if c = 32 then [32] else encByte 8 c
theorem unq_tab : ∀ c : Fin 256, unq (qb c.val.toUInt8) = ub c.val.toUInt8 := by decide +kernel
theorem unq_qu (l : List UInt8) : unq (quL l) = l.flatMap ub := by
  induction l with
  | nil => rfl
  | cons c l ih =>
    have h := unq_tab ⟨c.toNat, c.toNat_lt⟩
    simp only [Nat.toUInt8, UInt8.ofNat_toNat] at h
    rw [quL_cons, unq_append, ih, h, List.flatMap_cons]
def cutB (c : UInt8) : List UInt8 → List (List UInt8)
  | [] => [[]]
  | b :: t => if b = c then [] :: cutB c t else match cutB c t with
    | [] => [[b]]
    | p :: ps => (b :: p) :: ps
theorem cutB_ne (c : UInt8) (l : List UInt8) : cutB c l ≠ [] := by
  cases l with
  | nil => simp [cutB]
  | cons b t =>
    simp only [cutB]
    split
    · simp
    · split <;> simp
theorem cutB_no (c : UInt8) : ∀ l : List UInt8, c ∉ l → cutB c l = [l]
  | [], _ => rfl
  | b :: t, h => by
    simp only [List.mem_cons, not_or] at h
    simp only [cutB]
    rw [if_neg (fun e => h.1 e.symm), cutB_no c t h.2]
theorem cutB_join (c : UInt8) (b : List UInt8) : ∀ a : List UInt8, cutB c (a ++ c :: b) = cutB c a ++ cutB c b
  | [] => by simp [cutB]
  | x :: a => by
    simp only [List.cons_append, cutB]
    rw [cutB_join c b a]
    split
    · rfl
    · cases h : cutB c a with
      | nil => exact absurd h (cutB_ne c a)
      | cons p ps => rfl
/-- what stands ahead of the first sign, and behind it -/
def atB (c : UInt8) : List UInt8 → List UInt8 × List UInt8
  | [] => ([], [])
  | b :: t => if b = c then ([], t) else ((b :: (atB c t).1), (atB c t).2)
theorem atB_join (c : UInt8) (b : List UInt8) : ∀ a : List UInt8, c ∉ a → atB c (a ++ c :: b) = (a, b)
  | [], _ => by simp [atB]
  | x :: a, h => by
    simp only [List.mem_cons, not_or] at h
    simp only [List.cons_append, atB]
    rw [if_neg (fun e => h.1 e.symm), atB_join c b a h.2]
/-- a form's text and its reading -/
def prt : List (List UInt8 × List UInt8) → List UInt8
  | [] => []
  | [p] => quL p.1 ++ 61 :: quL p.2
  | p :: q :: r => (quL p.1 ++ 61 :: quL p.2) ++ 38 :: prt (q :: r)
def prs (rd : List UInt8 → List UInt8) (s : List UInt8) : List (List UInt8 × List UInt8) := ((cutB 38 s).filter (· ≠ [])).map fun p => (rd (atB 61 p).1, rd (atB 61 p).2)
theorem piece_no (p : List UInt8 × List UInt8) : (38 : UInt8) ∉ quL p.1 ++ 61 :: quL p.2 := by
  intro h
  simp only [List.mem_append, List.mem_cons] at h
  rcases h with h | h | h
  · exact (quL_no _ _ h).1 rfl
  · exact absurd h (by decide)
  · exact (quL_no _ _ h).1 rfl
theorem piece_at (p : List UInt8 × List UInt8) : atB 61 (quL p.1 ++ 61 :: quL p.2) = (quL p.1, quL p.2) := atB_join 61 _ _ fun h => (quL_no _ _ h).2 rfl
theorem prs_join (rd : List UInt8 → List UInt8) (a b : List UInt8) : prs rd (a ++ 38 :: b) = prs rd a ++ prs rd b := by
  unfold prs; rw [cutB_join, List.filter_append, List.map_append]
theorem prs_piece (rd : List UInt8 → List UInt8) (p : List UInt8 × List UInt8) : prs rd (quL p.1 ++ 61 :: quL p.2) = [(rd (quL p.1), rd (quL p.2))] := by
  unfold prs
  rw [cutB_no 38 _ (piece_no p), List.filter_cons_of_pos (by simp), List.filter_nil, List.map_cons, piece_at, List.map_nil]
theorem prs_prt (rd : List UInt8 → List UInt8) : ∀ l : List (List UInt8 × List UInt8), prs rd (prt l) = l.map fun p => (rd (quL p.1), rd (quL p.2))
  | [] => rfl
  | [p] => by rw [prt, prs_piece]; rfl
  | p :: q :: r => by rw [prt, prs_join, prs_piece, prs_prt rd (q :: r)]; rfl
end Go.Proofs.YtbcbmmlpgdndpaaDoor.Qu
