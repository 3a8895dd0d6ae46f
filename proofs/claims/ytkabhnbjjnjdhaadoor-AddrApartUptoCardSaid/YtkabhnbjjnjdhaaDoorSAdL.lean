/- Addresses as texts, plain: what is written is read as what it was; a full stop behind; forms of one address. -/
import Derived.Test.YtkabhnbjjnjdhaaDoorSAdP
set_option linter.unusedSimpArgs false
set_option linter.unusedVariables false
namespace Go.Proofs.YtkabhnbjjnjdhaaDoor.Ad
open Go
theorem join_two (x y : List UInt8) (r : List (List UInt8)) (sep : List UInt8) : Lib.join (x :: y :: r) sep = x ++ sep ++ Lib.join (y :: r) sep := by
  rw [Lib.join_cons, Lib.join_cons]
  unfold Lib.joinTail
  simp
theorem parts_free {c : UInt8} : ∀ {l : List UInt8}, c ∉ l → parts c l = [l]
  | [], _ => rfl
  | b :: r, h => by
    have hb : b ≠ c := fun e => h (by rw [e]; exact List.mem_cons_self)
    unfold parts
    rw [if_neg hb, parts_free (fun h' => h (List.mem_cons_of_mem _ h'))]
theorem parts_app {c : UInt8} : ∀ (l r : List UInt8), c ∉ l → parts c (l ++ c :: r) = l :: parts c r
  | [], r, _ => by
    show parts c (c :: r) = _
    conv => lhs; unfold parts
    rw [if_pos rfl]
  | b :: l, r, h => by
    have hb : b ≠ c := fun e => h (by rw [e]; exact List.mem_cons_self)
    show parts c (b :: (l ++ c :: r)) = _
    conv => lhs; unfold parts
    rw [if_neg hb, parts_app l r (fun h' => h (List.mem_cons_of_mem _ h'))]
theorem parts_join {c : UInt8} : ∀ {xs : List (List UInt8)}, xs ≠ [] → (∀ x ∈ xs, c ∉ x) → parts c (Lib.join xs [c]) = xs
  | [], h, _ => absurd rfl h
  | [x], _, h => by rw [Lib.join_one, parts_free (h x List.mem_cons_self)]
  | x :: y :: r, _, h => by
    rw [join_two, List.append_assoc]
    show parts c (x ++ c :: Lib.join (y :: r) [c]) = _
    rw [parts_app _ _ (h x List.mem_cons_self), parts_join (by simp) (fun z hz => h z (List.mem_cons_of_mem _ hz))]
theorem parts_snoc_sep {c : UInt8} : ∀ l : List UInt8, parts c (l ++ [c]) = parts c l ++ [[]]
  | [] => by
    show parts c [c] = _
    unfold parts
    rw [if_pos rfl]
    rfl
  | b :: l => by
    have ih := parts_snoc_sep (c := c) l
    show parts c (b :: (l ++ [c])) = _
    conv => lhs; unfold parts
    conv => rhs; unfold parts
    by_cases h : b = c
    · rw [if_pos h, if_pos h, ih]; rfl
    · rw [if_neg h, if_neg h, ih]
      cases hp : parts c l with
      | nil => exact absurd hp (parts_ne c l)
      | cons p ps => rfl
/-- one more that is no separator: the last part grows -/
theorem parts_snoc {c x : UInt8} (hx : x ≠ c) : ∀ l : List UInt8, ∃ ps p, parts c l = ps ++ [p] ∧ parts c (l ++ [x]) = ps ++ [p ++ [x]]
  | [] => ⟨[], [], rfl, by
    show parts c [x] = _
    unfold parts
    rw [if_neg hx]
    rfl⟩
  | b :: l => by
    obtain ⟨ps, p, h1, h2⟩ := parts_snoc hx l
    by_cases h : b = c
    · refine ⟨[] :: ps, p, ?_, ?_⟩
      · conv => lhs; unfold parts
        rw [if_pos h, h1]; rfl
      · show parts c (b :: (l ++ [x])) = _
        conv => lhs; unfold parts
        rw [if_pos h, h2]; rfl
    · cases ps with
      | nil =>
        refine ⟨[], b :: p, ?_, ?_⟩
        · conv => lhs; unfold parts
          rw [if_neg h, h1]; rfl
        · show parts c (b :: (l ++ [x])) = _
          conv => lhs; unfold parts
          rw [if_neg h, h2]; rfl
      | cons q qs =>
        refine ⟨(b :: q) :: qs, p, ?_, ?_⟩
        · conv => lhs; unfold parts
          rw [if_neg h, h1]; rfl
        · show parts c (b :: (l ++ [x])) = _
          conv => lhs; unfold parts
          rw [if_neg h, h2]; rfl
theorem cutLast_snoc {ps : List (List UInt8)} {p : List UInt8} (h : p ≠ []) : cutLast (ps ++ [p]) = ps ++ [p] := by
  unfold cutLast
  rw [if_neg]
  rintro ⟨_, h2⟩
  rw [List.getLast?_concat] at h2
  exact h (Option.some.inj h2)
theorem partsD_dot (l : List UInt8) : partsD (l ++ [46]) = parts 46 l := by
  unfold partsD cutLast
  rw [parts_snoc_sep, if_pos]
  · simp
  · have := List.length_pos_iff.2 (parts_ne 46 l)
    refine ⟨by rw [List.length_append, List.length_singleton]; omega, by simp⟩
theorem partsD_nodot (l : List UInt8) (x : UInt8) (hx : x ≠ 46) : partsD (l ++ [x]) = parts 46 (l ++ [x]) := by
  obtain ⟨ps, p, _, h2⟩ := parts_snoc hx l
  unfold partsD
  rw [h2]
  exact cutLast_snoc (by simp)
theorem partsD_same {s : List UInt8} (h : s ≠ []) (hx : s.getLast h ≠ 46) : partsD (s ++ [46]) = partsD s := by
  rw [partsD_dot]
  have e := List.dropLast_concat_getLast h
  conv => lhs; rw [← e]
  conv => rhs; rw [← e]
  rw [partsD_nodot _ _ hx]
theorem partsD_ne (l : List UInt8) : partsD l ≠ [] := cutLast_ne (parts_ne 46 l)
theorem ends_last (l : List UInt8) : endsL l = ((numL ((partsD l).getLast (partsD_ne l))).isSome || (!((partsD l).getLast (partsD_ne l)).isEmpty && allD 10 ((partsD l).getLast (partsD_ne l)))) := rfl
theorem v4_dot {s : List UInt8} (h : s ≠ []) (hx : s.getLast h ≠ 46) : v4L (s ++ [46]) = v4L s := by unfold v4L; rw [partsD_same h hx]
theorem getLast_congr' {a b : List (List UInt8)} (h : a = b) (ha : a ≠ []) (hb : b ≠ []) : a.getLast ha = b.getLast hb := by subst h; rfl
theorem ends_dot {s : List UInt8} (h : s ≠ []) (hx : s.getLast h ≠ 46) : endsL (s ++ [46]) = endsL s := by
  rw [ends_last, ends_last, getLast_congr' (partsD_same h hx) (partsD_ne _) (partsD_ne _)]
theorem dec3_all : ∀ n : Fin 256, numL (dec3 n.val) = some n.val ∧ 46 ∉ dec3 n.val ∧ 58 ∉ dec3 n.val ∧ dec3 n.val ≠ [] ∧ (dec3 n.val).length ≤ 3 := by decide +kernel
theorem dec3_of {n : Nat} (h : n < 256) : numL (dec3 n) = some n ∧ 46 ∉ dec3 n ∧ 58 ∉ dec3 n ∧ dec3 n ≠ [] ∧ (dec3 n).length ≤ 3 := dec3_all ⟨n, h⟩
def four (n : Nat) : List (List UInt8) := [dec3 (n / 16777216 % 256), dec3 (n / 65536 % 256), dec3 (n / 256 % 256), dec3 (n % 256)]
theorem four_mem {n : Nat} {x : List UInt8} (h : x ∈ four n) : ∃ m, m < 256 ∧ x = dec3 m := by
  unfold four at h
  simp only [List.mem_cons, List.not_mem_nil, or_false] at h
  rcases h with rfl | rfl | rfl | rfl <;> exact ⟨_, Nat.mod_lt _ (by decide), rfl⟩
theorem txt4_parts (n : Nat) : parts 46 (txt4 n) = four n := parts_join (by simp [four]) (fun x hx => by obtain ⟨m, hm, rfl⟩ := four_mem hx; exact (dec3_of hm).2.1)
theorem txt4_partsD (n : Nat) : partsD (txt4 n) = four n := by
  unfold partsD
  rw [txt4_parts]
  exact cutLast_snoc (ps := [_, _, _]) (dec3_of (Nat.mod_lt n (by decide : 0 < 256))).2.2.2.1
theorem v4F_four {n : Nat} (h : n < 4294967296) : v4F 4 0 0 (four n) = some n := by
  have a := dec3_of (Nat.mod_lt (n / 16777216) (by decide : 0 < 256))
  have b := dec3_of (Nat.mod_lt (n / 65536) (by decide : 0 < 256))
  have c := dec3_of (Nat.mod_lt (n / 256) (by decide : 0 < 256))
  have d := dec3_of (Nat.mod_lt n (by decide : 0 < 256))
  unfold four v4F
  simp only [a.1, List.isEmpty_cons]
  rw [if_neg (by decide), if_pos (by omega)]
  unfold v4F
  simp only [b.1, List.isEmpty_cons]
  rw [if_neg (by decide), if_pos (by omega)]
  unfold v4F
  simp only [c.1, List.isEmpty_cons]
  rw [if_neg (by decide), if_pos (by omega)]
  unfold v4F
  simp only [d.1, List.isEmpty_nil, if_true]
  rw [if_pos (by omega)]
  congr 1
  omega
theorem v4_back {n : Nat} (h : n < 4294967296) : v4L (txt4 n) = some n := by
  unfold v4L
  rw [txt4_partsD]
  have hl : (four n).length = 4 := rfl
  rw [if_pos (by rw [hl]; decide), hl, v4F_four h]
theorem v4_back_dot {n : Nat} (h : n < 4294967296) : v4L (txt4 n ++ [46]) = some n := by
  unfold v4L
  rw [partsD_dot, txt4_parts]
  have hl : (four n).length = 4 := rfl
  rw [if_pos (by rw [hl]; decide), hl, v4F_four h]
theorem ends_back (n : Nat) : endsL (txt4 n) = true := by
  rw [ends_last, getLast_congr' (txt4_partsD n) (partsD_ne _) (by simp [four])]
  show ((numL (dec3 (n % 256))).isSome || _) = true
  rw [(dec3_of (Nat.mod_lt n (by decide : 0 < 256))).1]
  rfl
theorem txt4_eq (n : Nat) : txt4 n = dec3 (n / 16777216 % 256) ++ [46] ++ (dec3 (n / 65536 % 256) ++ [46] ++ (dec3 (n / 256 % 256) ++ [46] ++ dec3 (n % 256))) := by
  unfold txt4
  rw [join_two, join_two, join_two, Lib.join_one]
theorem txt4_len (n : Nat) : (txt4 n).length ≤ 15 := by
  have a := dec3_of (Nat.mod_lt (n / 16777216) (by decide : 0 < 256))
  have b := dec3_of (Nat.mod_lt (n / 65536) (by decide : 0 < 256))
  have c := dec3_of (Nat.mod_lt (n / 256) (by decide : 0 < 256))
  have d := dec3_of (Nat.mod_lt n (by decide : 0 < 256))
  rw [txt4_eq]
  simp only [List.length_append, List.length_singleton]
  omega
theorem txt4_nocolon (n : Nat) : 58 ∉ txt4 n := by
  have a := dec3_of (Nat.mod_lt (n / 16777216) (by decide : 0 < 256))
  have b := dec3_of (Nat.mod_lt (n / 65536) (by decide : 0 < 256))
  have c := dec3_of (Nat.mod_lt (n / 256) (by decide : 0 < 256))
  have d := dec3_of (Nat.mod_lt n (by decide : 0 < 256))
  rw [txt4_eq]
  simp only [List.mem_append, List.mem_singleton, not_or]
  exact ⟨⟨a.2.2.1, by decide⟩, ⟨b.2.2.1, by decide⟩, ⟨c.2.2.1, by decide⟩, d.2.2.1⟩
theorem txt4_ne (n : Nat) : txt4 n ≠ [] := by
  rw [txt4_eq]; simp
theorem v4F_lt {n : Nat} (hn : n ≤ 4) : ∀ (ps : List (List UInt8)) (i s m : Nat), i + ps.length = n → s % 2 ^ (8 * (4 - i)) = 0 → s < 4294967296 → v4F n i s ps = some m → m < 4294967296
  | [], i, s, m, hi, _, hs, h => by unfold v4F at h; obtain rfl := Option.some.inj h; exact hs
  | p :: r, i, s, m, hi, h0, hs, h => by
    rw [List.length_cons] at hi
    have hc : (n = 1 ∧ i = 0) ∨ (n = 2 ∧ i = 0) ∨ (n = 2 ∧ i = 1) ∨ (n = 3 ∧ i = 0) ∨ (n = 3 ∧ i = 1) ∨ (n = 3 ∧ i = 2) ∨ (n = 4 ∧ i = 0) ∨ (n = 4 ∧ i = 1) ∨ (n = 4 ∧ i = 2) ∨ (n = 4 ∧ i = 3) := by omega
    unfold v4F at h
    split at h
    · cases h
    · rename_i q hq
      split at h
      · rename_i he
        obtain rfl := List.isEmpty_iff.1 he
        split at h
        · rename_i hz
          obtain rfl := Option.some.inj h
          simp only [List.length_nil] at hi
          rcases hc with ⟨rfl, rfl⟩ | ⟨rfl, rfl⟩ | ⟨rfl, rfl⟩ | ⟨rfl, rfl⟩ | ⟨rfl, rfl⟩ | ⟨rfl, rfl⟩ | ⟨rfl, rfl⟩ | ⟨rfl, rfl⟩ | ⟨rfl, rfl⟩ | ⟨rfl, rfl⟩ <;> omega
        · cases h
      · rename_i he
        have hr : 0 < r.length := by cases r with
          | nil => exact absurd rfl he
          | cons _ _ => simp
        split at h
        · rename_i hz
          refine v4F_lt hn r (i + 1) _ m (by omega) ?_ ?_ h
          · rcases hc with ⟨rfl, rfl⟩ | ⟨rfl, rfl⟩ | ⟨rfl, rfl⟩ | ⟨rfl, rfl⟩ | ⟨rfl, rfl⟩ | ⟨rfl, rfl⟩ | ⟨rfl, rfl⟩ | ⟨rfl, rfl⟩ | ⟨rfl, rfl⟩ | ⟨rfl, rfl⟩ <;> omega
          · rcases hc with ⟨rfl, rfl⟩ | ⟨rfl, rfl⟩ | ⟨rfl, rfl⟩ | ⟨rfl, rfl⟩ | ⟨rfl, rfl⟩ | ⟨rfl, rfl⟩ | ⟨rfl, rfl⟩ | ⟨rfl, rfl⟩ | ⟨rfl, rfl⟩ | ⟨rfl, rfl⟩ <;> omega
        · cases h
theorem v4_lt {l : List UInt8} {m : Nat} (h : v4L l = some m) : m < 4294967296 := by
  unfold v4L at h
  split at h
  · rename_i hn
    exact v4F_lt hn _ 0 0 m (by omega) (by omega) (by omega) h
  · cases h
theorem v4F_last {n : Nat} : ∀ (ps : List (List UInt8)) (i s m : Nat) (h : ps ≠ []), v4F n i s ps = some m → (numL (ps.getLast h)).isSome = true
  | [], _, _, _, h, _ => absurd rfl h
  | [p], i, s, m, _, h => by
    unfold v4F at h
    split at h
    · cases h
    · rename_i q hq
      show (numL p).isSome = true
      rw [hq]; rfl
  | p :: q :: r, i, s, m, _, h => by
    unfold v4F at h
    split at h
    · cases h
    · split at h
      · rename_i he; cases he
      · split at h
        · rw [List.getLast_cons (by simp)]
          exact v4F_last (q :: r) _ _ m (by simp) h
        · cases h
theorem v4_ends {l : List UInt8} {m : Nat} (h : v4L l = some m) : endsL l = true := by
  unfold v4L at h
  split at h
  · rw [ends_last, v4F_last _ 0 0 m (partsD_ne l) h]
    rfl
  · cases h
end Go.Proofs.YtkabhnbjjnjdhaaDoor.Ad
