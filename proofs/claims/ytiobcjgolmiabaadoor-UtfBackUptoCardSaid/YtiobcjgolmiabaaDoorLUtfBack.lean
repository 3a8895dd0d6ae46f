/- The plain law of UtfBack. -/
import Derived.Test.YtiobcjgolmiabaaDoorUtfLaws
import Derived.Test.YtiobcjgolmiabaaDoorQUtfBack
namespace Go.Proofs.YtiobcjgolmiabaaDoor.Q
open Go.RowKit Go.Proofs.YtiobcjgolmiabaaDoorW.PrintWords Go.Proofs.YtiobcjgolmiabaaDoorW.PrintLast Go.Proofs.YtiobcjgolmiabaaDoorW.PrintMore Go.Proofs.YtiobcjgolmiabaaDoor.P1
set_option linter.unusedSimpArgs false
theorem fix_fix (l : List Int) (h : ∀ x ∈ l, mayR x) : l.map fixR = l := by
  induction l with
  | nil => rfl
  | cons x l ih => rw [List.map_cons, fix_may_eq (h x List.mem_cons_self), ih (fun y hy => h y (List.mem_cons_of_mem _ hy))]
theorem good_text (s : List UInt8) : encRunes (uDec (encRunes (uDec s))) = encRunes (uDec s) := by rw [uDec_enc0, enc_map_fix]
theorem back_l1 (s : List UInt8) (hs : s.length ≤ 1048576) (n : Nat) : ∀ (x : List Int) (i k : Nat), x.length = (uDec s).length → (uDec s).length ≤ i + n → i ≤ (uDec s).length → n + 2 ≤ k →
    bastionlaw02_UtfBack.l1 k (B s) x ((uDec s).length : Int) i = some true := by
  have hd := uDec_length _ s (Nat.le_refl _)
  have he := encRunes_len (uDec s)
  have last : (utf_Scalar.f (B s)).bind (fun t346 => ((utf_Valid.f t346).bind fun t347 => (if t347 = true then ((utf_Scalar.f t346).bind fun t348 => (if t348.toList = t346.toList then ((utf_Valid.f (B s)).bind fun t349 => (if ((t346.toList == (B s).toList) == t349) = true then ((utf_Decode.f (B s)).bind fun t350 => ((utf_Encode.f t350).bind fun t353 => (some (t353.toList == t346.toList)))) else (some false))) else (some false))) else (some false)))) = some true := by
    rw [utf_Scalar_f s (by omega)]
    simp only [Option.bind_some]
    rw [utf_Valid_f _ (by omega), good_text]
    simp only [Option.bind_some]
    rw [if_pos (by simp), utf_Scalar_f _ (by omega), good_text]
    simp only [Option.bind_some]
    rw [if_pos trivial, utf_Valid_f s (by omega)]
    simp only [Option.bind_some]
    rw [B_toList, B_toList, if_pos (by simp), utf_Decode_f s (by omega)]
    simp only [Option.bind_some]
    rw [utf_Encode_f _ (by omega) (fun x hx => may_32 (uDec_may _ s (Nat.le_refl _) x hx))]
    simp only [Option.bind_some]
    rw [B_toList]; simp
  induction n with
  | zero =>
    intro x i k hx hn hi hk
    obtain ⟨k, rfl⟩ : ∃ m, k = m + 1 := ⟨k - 1, by omega⟩
    simp only [bastionlaw02_UtfBack.l1]
    rw [if_neg (by omega)]
    exact last
  | succ n ih =>
    intro x i k hx hn hi hk
    obtain ⟨k, rfl⟩ : ∃ m, k = m + 1 := ⟨k - 1, by omega⟩
    simp only [bastionlaw02_UtfBack.l1]
    by_cases h : i < (uDec s).length
    · rw [if_pos (by omega), if_pos (by omega), if_pos (by omega), w64 (by omega) (by omega)]
      have := ih (x.set ((i : Int)).toNat 120) (i + 1) k (by simpa using hx) (by omega) (by omega) (by omega)
      rwa [show ((i + 1 : Nat) : Int) = (i : Int) + 1 by omega] at this
    · rw [if_neg (by omega)]
      exact last
theorem pick_may (c g i L : Int) (X Y : Option Bool) (h0 : 0 ≤ i) (h1 : i < L) (hg : (mayR c ∧ g = c) ∨ (¬ mayR c ∧ g = 65533)) : (if i < L then (if 0 ≤ i then (if i < L then (if c ≥ 0 then (if c < 55296 then (if i < L then (if g = c then X else (some false)) else (none)) else (if c > 57343 then (if c ≤ 1114111 then (if i < L then (if g = c then (if (c ≤ 1114111) then X else (if g = 65533 then X else (some false))) else (some false)) else (none)) else (if (c ≤ 1114111) then X else (if i < L then (if g = 65533 then X else (some false)) else (none)))) else (if i < L then (if g = 65533 then X else (some false)) else (none)))) else (if c > 57343 then (if c ≤ 1114111 then (if i < L then (if g = c then (if (c ≤ 1114111) then X else (if g = 65533 then X else (some false))) else (some false)) else (none)) else (if (c ≤ 1114111) then X else (if i < L then (if g = 65533 then X else (some false)) else (none)))) else (if i < L then (if g = 65533 then X else (some false)) else (none)))) else (none)) else (none)) else Y) = X := by
  unfold mayR at hg
  repeat' split
  all_goals first | rfl | (exfalso; omega)
theorem back_l0 (l : List Int) (s : List UInt8) (hl : ∀ x ∈ l, inR32 x) (hs : l.length + s.length ≤ 1048576) (n : Nat) : ∀ (r p : List Int) (k : Nat), r.length ≤ n → n + 6 * (l.length + s.length) + 20 ≤ k → l = p ++ r →
    bastionlaw02_UtfBack.l0 k (B s) (B (encRunes l)) (l.map fixR) ((encRunes p).length : Int) l (l.length : Int) p.length = some true := by
  have hd := uDec_length _ s (Nat.le_refl _)
  have he := encRunes_len l
  have last : ∀ (k : Nat), 6 * (l.length + s.length) + 19 ≤ k → (utf_Decode.f (B s)).bind (fun t329 => (if (B (encRunes l)).size + (B s).size ≤ 9223372036854775807 then ((utf_Decode.f (B (encRunes l) ++ B s)).bind fun t332 => (if ((encRunes l).length : Int) = ((B (encRunes l)).size : Int) then ((some (([] : List Int) : List Int)).bind fun y335 => (if y335.length + (l.map fixR).length < 35184372088832 then ((some (y335 ++ (l.map fixR) : List Int)).bind fun y338 => (if y338.length + t329.length < 35184372088832 then ((bastionref02_Same.f k (y338 ++ t329) t332).bind fun t344 => (bastionlaw02_UtfBack.j2 k (B s) t329 (!t344))) else (none))) else (none))) else (bastionlaw02_UtfBack.j2 k (B s) t329 true))) else (none))) = some true := by
    intro k hk
    obtain ⟨k, rfl⟩ : ∃ m, k = m + 1 := ⟨k - 1, by omega⟩
    rw [utf_Decode_f s (by omega)]
    simp only [Option.bind_some]
    rw [if_pos (by rw [B_size, B_size]; omega), B_append, utf_Decode_f _ (by simp; omega), uDec_enc]
    simp only [Option.bind_some, List.nil_append, List.length_nil, List.length_map]
    rw [if_pos (by rw [B_size]), if_pos (by omega), if_pos (by omega)]
    have hsame : bastionref02_Same.f (k + 1) (l.map fixR ++ uDec s) (l.map fixR ++ uDec s) = some true := by
      unfold bastionref02_Same.f
      rw [if_pos rfl]
      have := ref_Same_l0 (l.map fixR ++ uDec s).length (l.map fixR ++ uDec s) (l.map fixR ++ uDec s) [] [] (k + 1) (Nat.le_refl _) (by simp; omega) rfl rfl (by simp; omega)
      simpa using this
    rw [hsame]
    simp only [Option.bind_some, Bool.not_true, bastionlaw02_UtfBack.j2]
    rw [if_neg (by decide)]
    exact back_l1 s (by omega) (uDec s).length (uDec s) 0 k rfl (by omega) (by omega) (by omega)
  induction n with
  | zero =>
    intro r p k hr hk hp
    obtain ⟨k, rfl⟩ : ∃ m, k = m + 1 := ⟨k - 1, by omega⟩
    obtain rfl : r = [] := List.eq_nil_of_length_eq_zero (by omega)
    obtain rfl : l = p := by simpa using hp
    simp only [bastionlaw02_UtfBack.l0]
    rw [if_neg (by omega)]
    exact last k (by omega)
  | succ n ih =>
    intro r p k hr hk hp
    obtain ⟨k, rfl⟩ : ∃ m, k = m + 1 := ⟨k - 1, by omega⟩
    simp only [bastionlaw02_UtfBack.l0]
    cases r with
    | nil =>
      obtain rfl : l = p := by simpa using hp
      rw [if_neg (by omega)]
      exact last k (by omega)
    | cons c r =>
      have hle : l.length = p.length + (r.length + 1) := by rw [hp]; simp
      have hp4 := encRunes_len p
      have hc4 := encodeRune_len c
      have h0 : rd l p.length = c := by rw [hp]; exact rd_end p r c _ rfl
      have h1 : rd (l.map fixR) p.length = fixR c := by rw [hp, List.map_append, List.map_cons]; exact rd_end _ _ _ _ (by simp)
      have key : (utf_Width.f c).bind (fun t310 => (bastionlaw02_UtfBack.l0 k (B s) (B (encRunes l)) (l.map fixR) (wrap64 (((encRunes p).length : Int) + t310)) l (l.length : Int) (wrap64 ((p.length : Int) + 1)))) = some true := by
        rw [utf_Width_f c (hl c (by rw [hp]; simp))]
        simp only [Option.bind_some]
        rw [w64 (by omega) (by omega), w64 (by omega) (by omega)]
        have := ih r (p ++ [c]) k (by simpa using hr) (by omega) (by rw [hp]; simp)
        rw [show (((p ++ [c]).length : Nat) : Int) = (p.length : Int) + 1 by simp, encRunes_append, encRunes_cons, show encRunes [] = [] from rfl, List.append_nil, List.length_append] at this
        rw [show (((encRunes p).length + (Lib.encodeRune c).length : Nat) : Int) = ((encRunes p).length : Int) + ((Lib.encodeRune c).length : Int) by omega] at this
        exact this
      rw [h0, h1]
      have hml : ((l.map fixR).length : Int) = (l.length : Int) := by simp
      rw [hml]
      refine (pick_may c (fixR c) p.length l.length _ _ (by omega) (by omega) ?_).trans key
      by_cases hm : mayR c
      · exact .inl ⟨hm, fix_may_eq hm⟩
      · exact .inr ⟨hm, if_neg hm⟩
theorem UtfBack_pure (l : List Int) (s : ByteArray) (hl : ∀ x ∈ l, (Lit.int .i32 x).wf = true) (h : l.length + s.size ≤ 1048576) : ∃ k, bastionlaw02_UtfBack.f k l s = some true := by
  obtain ⟨s, rfl⟩ := B_ex s
  rw [B_size] at h
  have he := encRunes_len l
  have hx : ∀ x ∈ l, inR32 x := fun x hx => wf_32 (hl x hx)
  have good : encRunes (uDec (encRunes l)) = encRunes l := by rw [uDec_enc0, enc_map_fix]
  refine Ev.rounds (g := fun k => bastionlaw02_UtfBack.f k l (B s)) ?_
  unfold bastionlaw02_UtfBack.f
  refine lives_ev.bind (Ev.ite_pos rfl ((Ev.const (utf_Encode_f l (by omega) hx)).bind ((Ev.const (utf_Decode_f _ (by omega))).bind ?_)))
  rw [uDec_enc0]
  refine Ev.ite_pos (by simp) ((Ev.const (utf_Valid_f _ (by omega))).bind (Ev.ite_pos (by rw [good]; simp) ((Ev.const (utf_Scalar_f _ (by omega))).bind ?_)))
  rw [good, show ((B (encRunes l)).toList != (B (encRunes l)).toList) = false by simp]
  refine Ev.mk (7 * (l.length + s.length) + 30) fun k hk => ?_
  obtain ⟨k, rfl⟩ : ∃ m, k = m + 1 := ⟨k - 1, by omega⟩
  simp only [bastionlaw02_UtfBack.j0]
  rw [if_neg (by decide)]
  exact back_l0 l s hx h l.length l [] k (Nat.le_refl _) (by omega) rfl
end Go.Proofs.YtiobcjgolmiabaaDoor.Q
