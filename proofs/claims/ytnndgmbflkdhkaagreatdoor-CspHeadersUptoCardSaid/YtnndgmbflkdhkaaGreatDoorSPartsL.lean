/- What stands between separators, and words: plain laws. -/
import Derived.Test.YtnndgmbflkdhkaaGreatDoorSSplit
import Derived.Test.YtnndgmbflkdhkaaGreatDoorSFields
import Derived.Test.YtnndgmbflkdhkaaGreatDoorSCspL
import Derived.Test.YtnndgmbflkdhkaaGreatDoorSTextL
set_option linter.unusedSimpArgs false
set_option linter.unusedVariables false
namespace Go.Proofs.YtnndgmbflkdhkaaGreatDoor.Q
open Go.RowKit Go.Proofs.YtnndgmbflkdhkaaGreatDoorW.PrintWords Go.Proofs.YtnndgmbflkdhkaaGreatDoorW.PrintLast Go.Proofs.YtnndgmbflkdhkaaGreatDoorW.PrintMore Go.Proofs.YtnndgmbflkdhkaaGreatDoor.P1
theorem parts_cons (c b : UInt8) (r : List UInt8) : parts c (b :: r) = if b = c then [] :: parts c r else match parts c r with
    | [] => [[b]]
    | p :: ps => (b :: p) :: ps := rfl
theorem parts_app (c : UInt8) (b : List UInt8) : ∀ a : List UInt8, parts c (a ++ c :: b) = parts c a ++ parts c b
  | [] => by simp [parts]
  | x :: a => by
    rw [List.cons_append, parts_cons, parts_app c b a, parts_cons]
    split
    · rfl
    · cases hp : parts c a with
      | nil => exact absurd hp (parts_ne c a)
      | cons p ps => rfl
theorem parts_one (c : UInt8) : ∀ l : List UInt8, c ∉ l → parts c l = [l]
  | [], _ => rfl
  | x :: l, h => by
    rw [parts_cons, if_neg (fun e => h (by simp [e])), parts_one c l (fun e => h (by simp [e]))]
theorem parts_mem (c : UInt8) : ∀ (l x : List UInt8), x ∈ parts c l → c ∉ x ∧ ∀ b ∈ x, b ∈ l
  | [], x, h => by simp [parts] at h; simp [h]
  | b :: r, x, h => by
    unfold parts at h
    split at h
    · rcases List.mem_cons.1 h with rfl | h
      · simp
      · have := parts_mem c r x h; exact ⟨this.1, fun d hd => List.mem_cons_of_mem _ (this.2 d hd)⟩
    · rename_i hb
      split at h
      · rename_i hp; exact absurd hp (parts_ne c r)
      · rename_i p ps hp
        rcases List.mem_cons.1 h with rfl | h
        · have := parts_mem c r p (by rw [hp]; simp)
          refine ⟨fun e => ?_, fun d hd => ?_⟩
          · rcases List.mem_cons.1 e with e | e
            · exact hb e.symm
            · exact this.1 e
          · rcases List.mem_cons.1 hd with rfl | hd
            · simp
            · exact List.mem_cons_of_mem _ (this.2 d hd)
        · have := parts_mem c r x (by rw [hp]; simp [h]); exact ⟨this.1, fun d hd => List.mem_cons_of_mem _ (this.2 d hd)⟩
theorem wordsGo_mem : ∀ (l cur x : List UInt8), (∀ b ∈ cur, bl b = false) → x ∈ wordsGo cur l → x ≠ [] ∧ ∀ b ∈ x, bl b = false ∧ (b ∈ cur ∨ b ∈ l)
  | [], cur, x, hc, h => by
    unfold wordsGo at h
    split at h
    · cases h
    · rename_i hne
      simp at h
      subst h
      exact ⟨hne, fun b hb => ⟨hc b hb, .inl hb⟩⟩
  | a :: r, cur, x, hc, h => by
    unfold wordsGo at h
    split at h
    · split at h
      · have := wordsGo_mem r [] x (by simp) h
        exact ⟨this.1, fun b hb => ⟨(this.2 b hb).1, by rcases (this.2 b hb).2 with h | h; · cases h
                                                        · exact .inr (List.mem_cons_of_mem _ h)⟩⟩
      · rename_i hne
        rcases List.mem_cons.1 h with rfl | h
        · exact ⟨hne, fun b hb => ⟨hc b hb, .inl hb⟩⟩
        · have := wordsGo_mem r [] x (by simp) h
          exact ⟨this.1, fun b hb => ⟨(this.2 b hb).1, by rcases (this.2 b hb).2 with h | h; · cases h
                                                          · exact .inr (List.mem_cons_of_mem _ h)⟩⟩
    · rename_i hb
      have := wordsGo_mem r (cur ++ [a]) x (fun b h => by
        rcases List.mem_append.1 h with h | h
        · exact hc b h
        · simp at h; subst h; simpa using hb) h
      refine ⟨this.1, fun b hb => ⟨(this.2 b hb).1, ?_⟩⟩
      rcases (this.2 b hb).2 with h | h
      · rcases List.mem_append.1 h with h | h
        · exact .inl h
        · simp at h; subst h; exact .inr (by simp)
      · exact .inr (List.mem_cons_of_mem _ h)
theorem wordsL_mem (l x : List UInt8) (h : x ∈ wordsL l) : x ≠ [] ∧ ∀ b ∈ x, bl b = false ∧ b ∈ l := by
  have := wordsGo_mem l [] x (by simp) h
  exact ⟨this.1, fun b hb => ⟨(this.2 b hb).1, by rcases (this.2 b hb).2 with h | h; · cases h
                                                  · exact h⟩⟩
end Go.Proofs.YtnndgmbflkdhkaaGreatDoor.Q
