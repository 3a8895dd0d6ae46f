/- The plain law of TopBytes. -/
import Derived.Test.YtiobcjgolmiabaaDoorUtfLaws
import Derived.Test.YtiobcjgolmiabaaDoorPctT
import Derived.Test.YtiobcjgolmiabaaDoorTurn
import Derived.Test.YtiobcjgolmiabaaDoorQTopBytes
namespace Go.Proofs.YtiobcjgolmiabaaDoor.Q
open Go.RowKit Go.Proofs.YtiobcjgolmiabaaDoorW.PrintWords Go.Proofs.YtiobcjgolmiabaaDoorW.PrintLast Go.Proofs.YtiobcjgolmiabaaDoorW.PrintMore Go.Proofs.YtiobcjgolmiabaaDoor.P1
set_option linter.unusedSimpArgs false
theorem begins_now : bastiontop_begins.f 100 = some true := by decide +kernel
theorem begins_ev : Ev (fun k => bastiontop_begins.f k) true := Ev.of (fun k => bastiontop_begins.mono k) begins_now
theorem ctl_in : ∀ s : Fin 9, 1 ≤ s.val → ∀ b : Fin 256, 126 < b.val → inB (s.val : Int) (b.val : Int) = true := by decide +kernel
theorem hex_126 : ∀ n : Fin 16, (hexU n.val).toNat ≤ 126 := by decide +kernel
/-- what is encoded stays within ASCII -/
theorem encL_126 (s' : Fin 9) (h1 : 1 ≤ s'.val) (l : List UInt8) : ∀ c ∈ encL (s'.val : Int) l, c.toNat ≤ 126 := by
  intro c hc
  simp only [encL, List.mem_flatMap] at hc
  obtain ⟨d, _, hd⟩ := hc
  unfold encByte at hd
  by_cases hin : inB (s'.val : Int) (d.toNat : Int) = true
  · rw [if_pos hin] at hd
    simp only [List.mem_cons, List.not_mem_nil, or_false] at hd
    rcases hd with rfl | rfl | rfl
    · decide
    · exact hex_126 ⟨d.toNat / 16, by have := d.toNat_lt; omega⟩
    · exact hex_126 ⟨d.toNat % 16, by omega⟩
  · rw [if_neg hin] at hd
    simp only [List.mem_cons, List.not_mem_nil, or_false] at hd
    subst hd
    apply Classical.byContradiction
    intro h
    exact hin (ctl_in s' h1 ⟨c.toNat, c.toNat_lt⟩ (by simp only; omega))
/-- a text without the sign is decoded as it was -/
theorem decL_encL_no (s' : Fin 9) (l : List UInt8) (h : 37 ∉ l) : decL (encL (s'.val : Int) l) = l := by
  induction l with
  | nil => rfl
  | cons c l ih =>
    simp only [List.mem_cons, not_or] at h
    rw [encL_cons]
    unfold encByte
    by_cases hin : inB (s'.val : Int) (c.toNat : Int) = true
    · rw [if_pos hin]
      show decL (37 :: hexU (c.toNat / 16) :: hexU (c.toNat % 16) :: encL _ l) = _
      rw [decL_enc, ih h.2]
    · rw [if_neg hin]
      show decL (c :: encL _ l) = _
      rw [decL_cons_ne (fun e => h.1 e.symm), ih h.2]
theorem top_l1 (s' : Fin 9) (l : List Int) (t : List UInt8) (hs : t.length ≤ 4194304) (hdec : uDec t = l.map fixR) (n : Nat) : ∀ (r p : List UInt8) (k : Nat) (b : Bool), r.length ≤ n → n + 6 * t.length + 60 ≤ k → t = p ++ r → (b = false → 7 ≤ s'.val ∨ 37 ∉ p) →
    bastiontop_TopBytes.l1 k l (s'.val : Int) (B t) (B (encL (s'.val : Int) t)) b p.length = some true := by
  have hel := encL_length (s'.val : Int) t
  have last : ∀ (k : Nat), 6 * t.length + 50 ≤ k → (7 ≤ s'.val ∨ 37 ∉ t) → ((pct_Decode.f k (B (encL (s'.val : Int) t))).bind fun t362 => (if t362.toList = (B t).toList then ((pct_Decode.f k (B (encL (s'.val : Int) t))).bind fun t363 => ((utf_Decode.f t363).bind fun t364 => (some ((t364.length : Int) == (l.length : Int))))) else (some false))) = some true := by
    intro k hk h
    have e : decL (encL (s'.val : Int) t) = t := by
      rcases h with h | h
      · exact decL_encL_sign s' h t
      · exact decL_encL_no s' t h
    have hd : pct_Decode.f k (B (encL (s'.val : Int) t)) = some (B t) := by
      unfold pct_Decode.f
      rw [pct_Decode_l0 (encL (s'.val : Int) t).length _ [] k (Nat.le_refl _) (by omega) (by simp; omega), List.nil_append, strOf_ns, e]
    rw [hd]
    simp only [Option.bind_some]
    rw [if_pos trivial, utf_Decode_f t (by omega), hdec]
    simp
  induction n with
  | zero =>
    intro r p k b hl hk hp hb
    obtain ⟨k, rfl⟩ : ∃ m, k = m + 1 := ⟨k - 1, by omega⟩
    obtain rfl : r = [] := List.eq_nil_of_length_eq_zero (by omega)
    simp only [bastiontop_TopBytes.l1]
    rw [if_neg (by rw [B_size, hp]; simp)]
    cases b with
    | true => rw [if_pos rfl]
    | false => rw [if_neg (by decide)]; exact last k (by omega) (by simpa [hp] using hb rfl)
  | succ n ih =>
    intro r p k b hl hk hp hb
    obtain ⟨k, rfl⟩ : ∃ m, k = m + 1 := ⟨k - 1, by omega⟩
    simp only [bastiontop_TopBytes.l1]
    cases r with
    | nil =>
      rw [if_neg (by rw [B_size, hp]; simp)]
      cases b with
      | true => rw [if_pos rfl]
      | false => rw [if_neg (by decide)]; exact last k (by omega) (by simpa [hp] using hb rfl)
    | cons c r =>
      have hle : t.length = p.length + (r.length + 1) := by rw [hp]; simp
      have h0 : bt (B t) p.length = (c.toNat : Int) := by rw [hp]; exact bt_end0 p r c _ rfl
      have next : ∀ b', (b' = false → 7 ≤ s'.val ∨ 37 ∉ p ++ [c]) → bastiontop_TopBytes.l1 k l (s'.val : Int) (B t) (B (encL (s'.val : Int) t)) b' ((p.length : Int) + 1) = some true := by
        intro b' hb'
        have := ih r (p ++ [c]) k b' (by simpa using hl) (by omega) (by rw [hp]; simp) hb'
        rwa [show (((p ++ [c]).length : Nat) : Int) = (p.length : Int) + 1 by simp] at this
      rw [if_pos (by rw [B_size]; omega), w64 (by omega) (by omega), h0]
      cases b with
      | true => rw [if_pos rfl]; exact next true (fun h => by cases h)
      | false =>
        rw [if_neg (by decide), if_pos (by omega)]
        have hb' := hb rfl
        by_cases e : c = 37
        · subst e
          rw [if_pos (by decide), pct_In_k _ 37 k (by omega), pct_in s']
          simp only [Option.bind_some]
          exact next _ (fun h => .inl (by simpa using h))
        · rw [if_neg (by intro h; apply e; exact UInt8.toNat_inj.mp (by have : (37 : UInt8).toNat = 37 := rfl; omega))]
          refine next false (fun _ => hb'.imp id fun h => ?_)
          simp only [List.mem_append, List.mem_singleton, not_or]
          exact ⟨h, fun h => e h.symm⟩
theorem top_l0 (s' : Fin 9) (h1 : 1 ≤ s'.val) (l : List Int) (t : List UInt8) (hs : t.length ≤ 4194304) (hdec : uDec t = l.map fixR) (n : Nat) : ∀ (r p : List UInt8) (k : Nat), r.length ≤ n → n + 7 * t.length + 70 ≤ k → encL (s'.val : Int) t = p ++ r →
    bastiontop_TopBytes.l0 k l (s'.val : Int) (B t) (B (encL (s'.val : Int) t)) p.length = some true := by
  have hel := encL_length (s'.val : Int) t
  have h126 := encL_126 s' h1 t
  induction n with
  | zero =>
    intro r p k hl hk hp
    obtain ⟨k, rfl⟩ : ∃ m, k = m + 1 := ⟨k - 1, by omega⟩
    obtain rfl : r = [] := List.eq_nil_of_length_eq_zero (by omega)
    simp only [bastiontop_TopBytes.l0]
    rw [if_neg (by rw [B_size, hp]; simp)]
    exact top_l1 s' l t hs hdec t.length t [] k false (Nat.le_refl _) (by omega) rfl (fun _ => .inr (by simp))
  | succ n ih =>
    intro r p k hl hk hp
    obtain ⟨k, rfl⟩ : ∃ m, k = m + 1 := ⟨k - 1, by omega⟩
    simp only [bastiontop_TopBytes.l0]
    cases r with
    | nil =>
      rw [if_neg (by rw [B_size, hp]; simp)]
      exact top_l1 s' l t hs hdec t.length t [] k false (Nat.le_refl _) (by omega) rfl (fun _ => .inr (by simp))
    | cons c r =>
      have hle : (encL (s'.val : Int) t).length = p.length + (r.length + 1) := by rw [hp]; simp
      have h0 : bt (B (encL (s'.val : Int) t)) p.length = (c.toNat : Int) := by rw [hp]; exact bt_end0 p r c _ rfl
      have hc := h126 c (by rw [hp]; simp)
      rw [if_pos (by rw [B_size]; omega), if_pos (by omega), h0, if_neg (by omega), w64 (by omega) (by omega)]
      have := ih r (p ++ [c]) k (by simpa using hl) (by omega) (by rw [hp]; simp)
      rwa [show (((p ++ [c]).length : Nat) : Int) = (p.length : Int) + 1 by simp] at this
theorem TopBytes_pure (l : List Int) (s : Int) (hl : ∀ x ∈ l, (Lit.int .i32 x).wf = true) (hs : (Lit.int .u8 s).wf = true) (h : l.length ≤ 1048576) : ∃ k, bastiontop_TopBytes.f k l s = some true := by
  have hs' : 0 ≤ s ∧ s ≤ 255 := by simpa [Lit.wf, IntKind.min, IntKind.max, IntKind.signed, IntKind.bits] using hs
  have he := encRunes_len l
  refine Ev.rounds (g := fun k => bastiontop_TopBytes.f k l s) ?_
  unfold bastiontop_TopBytes.f
  refine begins_ev.bind (Ev.ite_pos rfl ((Ev.const (utf_Encode_f l (by omega) (fun x hx => wf_32 (hl x hx)))).bind ?_))
  by_cases h9 : 1 ≤ s ∧ s < 9
  · obtain ⟨s', rfl⟩ := s_fin hs'.1 h9.2
    have hel := encL_length (s'.val : Int) (encRunes l)
    refine (Ev.const (pct_Encode_good _ _ h9.1 h9.2 (by omega))).bind (Ev.ite_pos rfl (Ev.mk (10 * (encRunes l).length + 80) fun k hk => ?_))
    exact top_l0 s' (by omega) l (encRunes l) (by omega) (uDec_enc0 l) (encL (s'.val : Int) (encRunes l)).length (encL (s'.val : Int) (encRunes l)) [] k (Nat.le_refl _) (by omega) rfl
  · refine (Ev.const (pct_Encode_bad _ s (by omega))).bind (Ev.ite_neg (by decide) ?_)
    rw [B_toList]
    exact Ev.now true
end Go.Proofs.YtiobcjgolmiabaaDoor.Q
