/- csp.Text, plain. -/
/- What stands between separators, and words: plain laws. -/
import Derived.Test.YtnndgmbflkdhkaaGreatDoorSCheck
import Derived.Test.YtnndgmbflkdhkaaGreatDoorSB7
import Derived.Test.YtnndgmbflkdhkaaGreatDoorSB4
import Derived.Test.YtnndgmbflkdhkaaGreatDoorSQcspTextA
import Derived.Test.YtnndgmbflkdhkaaGreatDoorSSplit
import Derived.Test.YtnndgmbflkdhkaaGreatDoorSFields
section
set_option linter.unusedSimpArgs false
set_option linter.unusedVariables false
namespace Go.Proofs.YtnndgmbflkdhkaaGreatDoor.Q
open Go.RowKit Go.Proofs.YtnndgmbflkdhkaaGreatDoorW.PrintWords Go.Proofs.YtnndgmbflkdhkaaGreatDoorW.PrintLast Go.Proofs.YtnndgmbflkdhkaaGreatDoorW.PrintMore Go.Proofs.YtnndgmbflkdhkaaGreatDoor.P1
def lineL (d : S35) : List UInt8 := Lib.join ((d.f0 :: d.f1).map (·.data.toList)) [32]
def textL (l : List S35) : List UInt8 := Lib.join (l.map lineL) [59, 32]
theorem join_two (x y : List UInt8) (r : List (List UInt8)) (sep : List UInt8) : Lib.join (x :: y :: r) sep = x ++ (sep ++ Lib.join (y :: r) sep) := by simp [Lib.join, List.intercalate, List.intersperse]
theorem join_le (sep : List UInt8) (m : Nat) : ∀ (xs : List (List UInt8)), (∀ x ∈ xs, x.length ≤ m) → (Lib.join xs sep).length ≤ xs.length * (m + sep.length)
  | [], _ => by simp [Lib.join]
  | [x], h => by have := h x (by simp); simp [Lib.join]; omega
  | x :: y :: r, h => by
    have h1 := h x (by simp)
    have h2 := join_le sep m (y :: r) (fun z hz => h z (by simp [hz]))
    rw [join_two]
    simp only [List.length_append, List.length_cons, Nat.add_mul, Nat.one_mul] at h2 ⊢
    omega
theorem okAt_get (l : List S35) : ∀ n, okAt l n = true → l.length ≤ 64 ∧ ∀ i < n, dirOk (l.take i) (rd_T35 l (i : Int)) = true ∧ ((rd_T35 l (i : Int)).f1.any fun v => !wordV v) = false
  | 0, h => ⟨by simpa [okAt] using h, fun i hi => by omega⟩
  | n + 1, h => by
    simp only [okAt, Bool.and_eq_true, Bool.not_eq_true'] at h
    obtain ⟨⟨h1, h2⟩, h3⟩ := h
    obtain ⟨h4, h5⟩ := okAt_get l n h1
    refine ⟨h4, fun i hi => ?_⟩
    by_cases hin : i < n
    · exact h5 i hin
    · obtain rfl : i = n := by omega
      exact ⟨h2, h3⟩
theorem line_join (d : S35) (hs : dirSmall d = true) (h64 : d.f1.length ≤ 64) : strings_Join.f (([d.f0] : List ByteArray) ++ d.f1) (⟨#[32]⟩ : ByteArray) = some (B (lineL d)) ∧ (lineL d).length ≤ 68157505 := by
  simp only [dirSmall, Bool.and_eq_true, decide_eq_true_eq] at hs
  obtain ⟨⟨h1, h2⟩, h3⟩ := hs
  have hall : ∀ x ∈ ((d.f0 :: d.f1).map (·.data.toList)), x.length ≤ 1048576 := by
    intro x hx
    rcases List.mem_map.1 hx with ⟨y, hy, rfl⟩
    rw [Array.length_toList]
    rcases List.mem_cons.1 hy with rfl | hy
    · exact h1
    · exact of_decide_eq_true (List.all_eq_true.1 h3 y hy)
  have hj := join_le [32] 1048576 _ hall
  rw [List.length_map, List.length_cons] at hj
  have hj2 : (lineL d).length ≤ 68157505 := by
    unfold lineL
    refine Nat.le_trans hj ?_
    have : (d.f1.length + 1) * (1048576 + ([32] : List UInt8).length) ≤ 65 * 1048577 := Nat.mul_le_mul (by omega) (by simp)
    omega
  refine ⟨?_, hj2⟩
  unfold strings_Join.f
  rw [if_pos ⟨by simp; omega, by unfold joinB; exact Nat.le_trans hj2 (by omega)⟩]
  rfl
theorem text_l0 (l : List S35) (hl : l.length ≤ 64) (hsm : ∀ d ∈ l, dirSmall d = true) (h64 : ∀ d ∈ l, d.f1.length ≤ 64) : ∀ (n k i : Nat), l.length - i = n → n < k → i ≤ l.length →
    csp_Text.l0 k ((l.take i).map fun d => B (lineL d)) l (l.length : Int) (i : Int) = some (B (textL l), 0) := by
  intro n
  induction n with
  | zero =>
    intro k i hn hk hi
    obtain ⟨k, rfl⟩ : ∃ m, k = m + 1 := ⟨k - 1, by omega⟩
    have hil : i = l.length := by omega
    simp only [csp_Text.l0]
    rw [if_neg (by omega), hil, List.take_length]
    have hall : ∀ x ∈ l.map lineL, x.length ≤ 68157505 := by
      intro x hx
      rcases List.mem_map.1 hx with ⟨d, hd, rfl⟩
      exact (line_join d (hsm d hd) (h64 d hd)).2
    have hj := join_le [59, 32] 68157505 _ hall
    rw [List.length_map] at hj
    have hb : (textL l).length ≤ 140737488355328 := by
      refine Nat.le_trans hj ?_
      have : l.length * (68157505 + ([59, 32] : List UInt8).length) ≤ 64 * 68157507 := Nat.mul_le_mul hl (by simp)
      omega
    have e : joinB (l.map fun d => B (lineL d)) (⟨#[59, 32]⟩ : ByteArray) = textL l := by
      unfold joinB textL
      rw [List.map_map]
      rfl
    unfold strings_Join.f
    rw [e, if_pos ⟨by rw [List.length_map]; omega, hb⟩]
    rfl
  | succ n ih =>
    intro k i hn hk hi
    obtain ⟨k, rfl⟩ : ∃ m, k = m + 1 := ⟨k - 1, by omega⟩
    have hlt : i < l.length := by omega
    have hr : rd_T35 l (i : Int) = l[i]'hlt := by
      unfold rd_T35
      simp [List.getD_eq_getElem?_getD, hlt]
    have hmem : l[i]'hlt ∈ l := List.getElem_mem _
    have hs := hsm _ hmem
    have h6 := h64 _ hmem
    have hw : wrap64 ((i : Int) + 1) = ((i + 1 : Nat) : Int) := by rw [w64 (by omega) (by omega)]; omega
    simp only [csp_Text.l0]
    rw [if_pos (by omega), if_pos (by omega), if_pos (by omega), hr]
    simp only [Option.bind_some]
    rw [if_pos (by simp; omega), (line_join _ hs h6).1]
    simp only [Option.bind_some]
    rw [if_pos (by simp; omega), hw]
    have := ih k (i + 1) (by omega) (by omega) (by omega)
    rw [List.take_add_one, List.getElem?_eq_getElem hlt, Option.toList_some, List.map_append] at this
    exact this
theorem text_ok (l : List S35) (rep : Bool) (hok : okAt l l.length = true) (hsm : l.all dirSmall = true) (k : Nat) (hk : 64 < k) : csp_Text.f k l rep = some (B (textL l), 0) := by
  obtain ⟨hl, hg⟩ := okAt_get l _ hok
  unfold csp_Text.f csp_Check.f
  rw [if_pos ⟨by omega, hsm⟩, hok]
  simp only [Option.bind_some, if_true]
  refine text_l0 l hl (fun d hd => List.all_eq_true.1 hsm d hd) (fun d hd => ?_) l.length k 0 (by omega) (by omega) (by omega)
  obtain ⟨i, hi, rfl⟩ := List.mem_iff_getElem.1 hd
  have h := (hg i hi).1
  have hr : rd_T35 l (i : Int) = l[i]'hi := by
    unfold rd_T35
    simp [List.getD_eq_getElem?_getD, hi]
  rw [hr] at h
  simp only [dirOk, Bool.and_eq_true, decide_eq_true_eq] at h
  exact h.1.2
end Go.Proofs.YtnndgmbflkdhkaaGreatDoor.Q
end
section
set_option linter.unusedSimpArgs false
set_option linter.unusedVariables false
namespace Go.Proofs.YtnndgmbflkdhkaaGreatDoor.Q
open Go.RowKit Go.Proofs.YtnndgmbflkdhkaaGreatDoorW.PrintWords Go.Proofs.YtnndgmbflkdhkaaGreatDoorW.PrintLast Go.Proofs.YtnndgmbflkdhkaaGreatDoorW.PrintMore Go.Proofs.YtnndgmbflkdhkaaGreatDoor.P1
theorem parts_cons (c b : UInt8) (r : List UInt8) : parts c (b :: r) = if b = c then [] :: parts c r else match parts c r with
    | [] => [[b]]
    | p :: ps => (b :: p) :: ps := rfl
theorem parts_app (c : UInt8) (b : List UInt8) : ∀ a : List UInt8, parts c (a ++ c :: b) = parts c a ++ parts c b
  | [] => by simp [parts]
  | x :: a => by
    rw [List.cons_append, parts_cons, parts_app c b a, parts_cons]
    split
    · rfl
    · cases hp : parts c a with
      | nil => exact absurd hp (parts_ne c a)
      | cons p ps => rfl
theorem parts_one (c : UInt8) : ∀ l : List UInt8, c ∉ l → parts c l = [l]
  | [], _ => rfl
  | x :: l, h => by
    rw [parts_cons, if_neg (fun e => h (by simp [e])), parts_one c l (fun e => h (by simp [e]))]
theorem parts_mem (c : UInt8) : ∀ (l x : List UInt8), x ∈ parts c l → c ∉ x ∧ ∀ b ∈ x, b ∈ l
  | [], x, h => by simp [parts] at h; simp [h]
  | b :: r, x, h => by
    unfold parts at h
    split at h
    · rcases List.mem_cons.1 h with rfl | h
      · simp
      · have := parts_mem c r x h; exact ⟨this.1, fun d hd => List.mem_cons_of_mem _ (this.2 d hd)⟩
    · rename_i hb
      split at h
      · rename_i hp; exact absurd hp (parts_ne c r)
      · rename_i p ps hp
        rcases List.mem_cons.1 h with rfl | h
        · have := parts_mem c r p (by rw [hp]; simp)
          refine ⟨fun e => ?_, fun d hd => ?_⟩
          · rcases List.mem_cons.1 e with e | e
            · exact hb e.symm
            · exact this.1 e
          · rcases List.mem_cons.1 hd with rfl | hd
            · simp
            · exact List.mem_cons_of_mem _ (this.2 d hd)
        · have := parts_mem c r x (by rw [hp]; simp [h]); exact ⟨this.1, fun d hd => List.mem_cons_of_mem _ (this.2 d hd)⟩
theorem parts_pre (c : UInt8) (p : List UInt8) (hp : c ∉ p) (l q : List UInt8) (qs : List (List UInt8)) (h : parts c l = q :: qs) : parts c (p ++ l) = (p ++ q) :: qs := by
  induction p with
  | nil => exact h
  | cons x p ih =>
    have ih := ih (fun e => hp (by simp [e]))
    rw [List.cons_append, parts_cons, if_neg (fun e => hp (by simp [e])), ih]
    rfl
theorem parts_join (c : UInt8) (y : List UInt8) (hy : c ∉ y) : ∀ (x : List UInt8) (xs : List (List UInt8)), (∀ z ∈ x :: xs, c ∉ z) → parts c (Lib.join (x :: xs) (c :: y)) = x :: xs.map (y ++ ·)
  | x, [], h => by
    have e : Lib.join [x] (c :: y) = x := by simp [Lib.join]
    rw [e, parts_one c x (h x (by simp))]; rfl
  | x, x2 :: xs, h => by
    rw [join_two, List.cons_append, parts_app, parts_one c x (h x (by simp)), parts_pre c y hy _ _ _ (parts_join c y hy x2 xs (fun z hz => h z (List.mem_cons_of_mem _ hz)))]
    rfl
theorem wordsGo_cons (cur : List UInt8) (b : UInt8) (r : List UInt8) : wordsGo cur (b :: r) = if bl b then (if cur = [] then wordsGo [] r else cur :: wordsGo [] r) else wordsGo (cur ++ [b]) r := rfl
theorem wordsGo_app (b : UInt8) (hb : bl b = true) (r : List UInt8) : ∀ (a cur : List UInt8), wordsGo cur (a ++ b :: r) = wordsGo cur a ++ wordsGo [] r
  | [], cur => by
    rw [List.nil_append, wordsGo_cons, if_pos hb]
    show _ = (if cur = [] then [] else [cur]) ++ wordsGo [] r
    split <;> rfl
  | x :: a, cur => by
    rw [List.cons_append, wordsGo_cons, wordsGo_app b hb r a [], wordsGo_app b hb r a (cur ++ [x]), wordsGo_cons]
    split
    · split <;> rfl
    · rfl
theorem words_app (b : UInt8) (hb : bl b = true) (a r : List UInt8) : wordsL (a ++ b :: r) = wordsL a ++ wordsL r := wordsGo_app b hb r a []
theorem words_blank (b : UInt8) (hb : bl b = true) (r : List UInt8) : wordsL (b :: r) = wordsL r := by
  have := words_app b hb [] r
  simpa [wordsL, wordsGo] using this
theorem words_one (l : List UInt8) (hl : l ≠ []) (h : ∀ b ∈ l, bl b = false) : wordsL l = [l] := by
  unfold wordsL
  rw [wordsGo_run l.length l [] (Nat.le_refl _) (fun c hc => h c (by simpa using hc))]
  simp [wordsGo, hl]
theorem words_join : ∀ ws : List (List UInt8), (∀ x ∈ ws, x ≠ [] ∧ ∀ b ∈ x, bl b = false) → wordsL (Lib.join ws [32]) = ws
  | [], _ => by simp [Lib.join, wordsL, wordsGo]
  | [x], h => by
    have e : Lib.join [x] [32] = x := by simp [Lib.join]
    rw [e, words_one x (h x (by simp)).1 (h x (by simp)).2]
  | x :: y :: r, h => by
    rw [join_two, List.singleton_append, words_app 32 (by decide), words_one x (h x (by simp)).1 (h x (by simp)).2, words_join (y :: r) (fun z hz => h z (List.mem_cons_of_mem _ hz))]
    rfl
theorem wordsGo_mem : ∀ (l cur x : List UInt8), (∀ b ∈ cur, bl b = false) → x ∈ wordsGo cur l → x ≠ [] ∧ ∀ b ∈ x, bl b = false ∧ (b ∈ cur ∨ b ∈ l)
  | [], cur, x, hc, h => by
    unfold wordsGo at h
    split at h
    · cases h
    · rename_i hne
      simp at h
      subst h
      exact ⟨hne, fun b hb => ⟨hc b hb, .inl hb⟩⟩
  | a :: r, cur, x, hc, h => by
    unfold wordsGo at h
    split at h
    · split at h
      · have := wordsGo_mem r [] x (by simp) h
        exact ⟨this.1, fun b hb => ⟨(this.2 b hb).1, by rcases (this.2 b hb).2 with h | h; · cases h
                                                        · exact .inr (List.mem_cons_of_mem _ h)⟩⟩
      · rename_i hne
        rcases List.mem_cons.1 h with rfl | h
        · exact ⟨hne, fun b hb => ⟨hc b hb, .inl hb⟩⟩
        · have := wordsGo_mem r [] x (by simp) h
          exact ⟨this.1, fun b hb => ⟨(this.2 b hb).1, by rcases (this.2 b hb).2 with h | h; · cases h
                                                          · exact .inr (List.mem_cons_of_mem _ h)⟩⟩
    · rename_i hb
      have := wordsGo_mem r (cur ++ [a]) x (fun b h => by
        rcases List.mem_append.1 h with h | h
        · exact hc b h
        · simp at h; subst h; simpa using hb) h
      refine ⟨this.1, fun b hb => ⟨(this.2 b hb).1, ?_⟩⟩
      rcases (this.2 b hb).2 with h | h
      · rcases List.mem_append.1 h with h | h
        · exact .inl h
        · simp at h; subst h; exact .inr (by simp)
      · exact .inr (List.mem_cons_of_mem _ h)
theorem wordsL_mem (l x : List UInt8) (h : x ∈ wordsL l) : x ≠ [] ∧ ∀ b ∈ x, bl b = false ∧ b ∈ l := by
  have := wordsGo_mem l [] x (by simp) h
  exact ⟨this.1, fun b hb => ⟨(this.2 b hb).1, by rcases (this.2 b hb).2 with h | h; · cases h
                                                  · exact h⟩⟩
theorem containsAny_false (m : List UInt8) : ∀ l : List UInt8, (∀ b ∈ l, m.contains b = false) → Lib.containsAny l m = false := by
  intro l h
  have : Lib.indexAny l m = -1 := by
    induction l with
    | nil => rfl
    | cons c l ih =>
      unfold Lib.indexAny
      rw [h c (by simp), ih (fun b hb => h b (List.mem_cons_of_mem _ hb))]
      rfl
  unfold Lib.containsAny
  rw [this]; rfl
end Go.Proofs.YtnndgmbflkdhkaaGreatDoor.Q
end
