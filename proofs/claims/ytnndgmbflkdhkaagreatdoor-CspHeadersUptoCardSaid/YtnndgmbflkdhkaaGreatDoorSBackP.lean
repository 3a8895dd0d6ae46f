/- What csp.Parse reads is right, and its text is read as it: plain. -/
import Derived.Test.YtnndgmbflkdhkaaGreatDoorSPartsL
import Derived.Test.YtnndgmbflkdhkaaGreatDoorSParse
set_option linter.unusedSimpArgs false
set_option linter.unusedVariables false
namespace Go.Proofs.YtnndgmbflkdhkaaGreatDoor.Q
open Go.RowKit Go.Proofs.YtnndgmbflkdhkaaGreatDoorW.PrintWords Go.Proofs.YtnndgmbflkdhkaaGreatDoorW.PrintLast Go.Proofs.YtnndgmbflkdhkaaGreatDoorW.PrintMore Go.Proofs.YtnndgmbflkdhkaaGreatDoor.P1
/-- a word; a name -/
def gdV (x : List UInt8) : Prop := x ≠ [] ∧ x.length ≤ 4096 ∧ ∀ b ∈ x, bl b = false ∧ b ≠ 59
def gdN (x : List UInt8) : Prop := gdV x ∧ ∀ b ∈ x, lowC b = b
def gd (d : S35) : Prop := ∃ (x : List UInt8) (vs : List (List UInt8)), d = ⟨B x, vs.map B⟩ ∧ gdN x ∧ (∀ v ∈ vs, gdV v) ∧ vs.length ≤ 64
def Good (ds : List S35) : Prop := ds.length ≤ 64 ∧ (∀ d ∈ ds, gd d) ∧ ds.Pairwise (fun a b => a.f0.toList ≠ b.f0.toList)
theorem lowC_keeps (b : UInt8) : lowC (lowC b) = lowC b ∧ (bl b = false → bl (lowC b) = false) ∧ (b ≠ 59 → lowC b ≠ 59) := all_c (p := fun b => lowC (lowC b) = lowC b ∧ (bl b = false → bl (lowC b) = false) ∧ (b ≠ 59 → lowC b ≠ 59)) (by decide +kernel) b
theorem gdN_low {x : List UInt8} (h : gdV x) : gdN (low x) := by
  obtain ⟨h1, h2, h3⟩ := h
  refine ⟨⟨by simpa [low] using h1, by rw [low_length]; exact h2, fun b hb => ?_⟩, fun b hb => ?_⟩
  · obtain ⟨c, hc, rfl⟩ := List.mem_map.1 hb
    exact ⟨(lowC_keeps c).2.1 (h3 c hc).1, (lowC_keeps c).2.2 (h3 c hc).2⟩
  · obtain ⟨c, hc, rfl⟩ := List.mem_map.1 hb
    exact (lowC_keeps c).1
theorem piece_words {p y : List UInt8} {vs : List (List UInt8)} (hp : 59 ∉ p) (hl : p.length ≤ 4096) (h : wordsL p = y :: vs) : gdV y ∧ ∀ v ∈ vs, gdV v := by
  have key : ∀ v ∈ wordsL p, gdV v := fun v hv => by
    have := wordsL_mem p v hv
    refine ⟨this.1, Nat.le_trans ((wordsL_len p).2 v hv).2 hl, fun b hb => ⟨(this.2 b hb).1, fun e => hp ?_⟩⟩
    rw [← e]; exact (this.2 b hb).2
  rw [h] at key
  exact ⟨key y (by simp), fun v hv => key v (by simp [hv])⟩
theorem any_false {acc : List S35} {z : List UInt8} (h : acc.any (fun e => e.f0.toList == z) = false) : ∀ e ∈ acc, e.f0.toList ≠ z := by
  intro e he
  have := List.any_eq_false.1 h e he
  simpa using this
theorem good_snoc {acc : List S35} {d : S35} (h : Good acc) (hd : gd d) (hl : acc.length < 64) (hn : ∀ e ∈ acc, e.f0.toList ≠ d.f0.toList) : Good (acc ++ [d]) := by
  refine ⟨by simp; omega, fun e he => ?_, ?_⟩
  · rcases List.mem_append.1 he with he | he
    · exact h.2.1 e he
    · simp at he; subst he; exact hd
  · rw [List.pairwise_append]
    exact ⟨h.2.2, by simp, fun a ha b hb => by simp at hb; subst hb; exact hn a ha⟩
theorem parse_good : ∀ (ps : List (List UInt8)) (acc ds : List S35), (∀ p ∈ ps, 59 ∉ p ∧ p.length ≤ 4096) → Good acc → parseGo ps acc = some ds → Good ds
  | [], acc, ds, _, hg, h => by cases h; exact hg
  | p :: ps, acc, ds, hp, hg, h => by
    have hps : ∀ p ∈ ps, 59 ∉ p ∧ p.length ≤ 4096 := fun q hq => hp q (List.mem_cons_of_mem _ hq)
    unfold parseGo at h
    split at h
    · exact parse_good ps acc ds hps hg h
    · rename_i x vs hw
      obtain ⟨h1, h2⟩ := piece_words (hp p (by simp)).1 (hp p (by simp)).2 hw
      split at h
      · exact parse_good ps acc ds hps hg h
      · rename_i ha
        split at h
        · cases h
        · rename_i hm
          refine parse_good ps _ ds hps (good_snoc hg ⟨low x, vs, rfl, gdN_low h1, h2, by omega⟩ (by omega) ?_) h
          exact any_false (by simpa using ha)
theorem good_nil : Good [] := ⟨by simp, by simp, List.Pairwise.nil⟩
theorem parse_Good {s : List UInt8} (hs : s.length ≤ 4096) {ds : List S35} (h : parseGo (parts 59 s) [] = some ds) : Good ds :=
  parse_good _ _ _ (fun p hp => ⟨(parts_mem 59 s p hp).1, Nat.le_trans (parts_len 59 s p hp) hs⟩) good_nil h
end Go.Proofs.YtnndgmbflkdhkaaGreatDoor.Q
