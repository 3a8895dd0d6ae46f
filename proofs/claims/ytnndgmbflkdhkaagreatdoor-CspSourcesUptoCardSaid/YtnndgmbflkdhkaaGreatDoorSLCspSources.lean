/- CspSources, plain. -/
import Derived.Test.YtnndgmbflkdhkaaGreatDoorSRefH
import Derived.Test.YtnndgmbflkdhkaaGreatDoorSQCspSources
import Derived.Test.YtnndgmbflkdhkaaGreatDoorSB8
set_option linter.unusedSimpArgs false
set_option linter.unusedVariables false
namespace Go.Proofs.YtnndgmbflkdhkaaGreatDoor.Q
open Go.RowKit Go.Proofs.YtnndgmbflkdhkaaGreatDoorW.PrintWords Go.Proofs.YtnndgmbflkdhkaaGreatDoorW.PrintLast Go.Proofs.YtnndgmbflkdhkaaGreatDoorW.PrintMore Go.Proofs.YtnndgmbflkdhkaaGreatDoor.P1
def srcT (x : Int × List UInt8 × List UInt8 × Bool × Int × Bool × Bool × List UInt8 × Int) : Int × ByteArray × ByteArray × Bool × Int × Bool × Bool × ByteArray × Int :=
  (x.1, B x.2.1, B x.2.2.1, x.2.2.2.1, x.2.2.2.2.1, x.2.2.2.2.2.1, x.2.2.2.2.2.2.1, B x.2.2.2.2.2.2.2.1, x.2.2.2.2.2.2.2.2)
theorem sourceT (l : List UInt8) (k : Nat) (hk : 20000 < k) : csp_Source.f k (B l) = some (srcT (srcF l)) := by
  obtain ⟨k, rfl⟩ : ∃ m, k = m + 1 := ⟨k - 1, by omega⟩
  exact source_f l k (by omega)
theorem sourceR (l : List UInt8) (k : Nat) (hk : 20000 < k) : bastionref14_Source.f k (B l) = some (srcT (srcF l)) := by
  obtain ⟨k, rfl⟩ : ∃ m, k = m + 1 := ⟨k - 1, by omega⟩
  unfold bastionref14_Source.f srcF
  rw [B_size]
  by_cases hl : l.length ≤ 4096
  · have hq := quotedR l (by omega) k (by omega)
    have hs := schemeR l (by omega) (k + 1) (by omega)
    obtain ⟨y, hy, y1, y2⟩ := hostedR l (by omega) k (by omega)
    have hle := schN_le l
    rw [if_neg (by omega), if_pos hl, hq]
    simp only [Option.bind_some]
    show (if (quoF l).2.2.2 = true then _ else _) = _
    cases (quoF l).2.2.2 with
    | true => rfl
    | false =>
      simp only [Bool.false_eq_true, if_false]
      rw [hs]
      simp only [Option.bind_some]
      have host : (((bastionref14_hosted.f k (B l)).bind fun bt172 => (if bt172.2.2.2.2.2.2.2.2 = true then (some (bt172.1, bt172.2.1, bt172.2.2.1, bt172.2.2.2.1, bt172.2.2.2.2.1, bt172.2.2.2.2.2.1, bt172.2.2.2.2.2.2.1, bt172.2.2.2.2.2.2.2.1, (0 : Int))) else (some (0, (⟨#[]⟩ : ByteArray), (⟨#[]⟩ : ByteArray), false, 0, false, false, (⟨#[]⟩ : ByteArray), 20)))) : Option (Int × ByteArray × ByteArray × Bool × Int × Bool × Bool × ByteArray × Int)) =
          some (srcT (if (hostF l).2.2.2.2.2.2.2 then (5, (hostF l).1, (hostF l).2.1, (hostF l).2.2.1, (hostF l).2.2.2.1, (hostF l).2.2.2.2.1, (hostF l).2.2.2.2.2.1, (hostF l).2.2.2.2.2.2.1, 0) else (0, [], [], false, 0, false, false, [], 20))) := by
        rw [hy]
        simp only [Option.bind_some]
        rw [y1]
        cases hh : (hostF l).2.2.2.2.2.2.2 with
        | false => rfl
        | true =>
          rw [y2 hh]
          rfl
      have sch : (schF l) = (low (l.take (schN l)), decide (0 < schN l) && l.drop (schN l) == [58]) := rfl
      rw [sch]
      generalize schN l = n at *
      by_cases hn : 0 < n
      · have p0 : (n : Int) > 0 := by omega
        have p1 : (0 : Int) ≤ (n : Int) := by omega
        have p2 : (n : Int) ≤ (l.length : Int) := by omega
        have p3 : (n : Int) ≤ ((B l).size : Int) := by rw [B_size]; omega
        rw [if_pos p0, if_pos p1, if_pos p2, Int.toNat_natCast]
        have he : (B l).extract n l.length = B (l.drop n) := by have := B_extract_end l n; rwa [B_size] at this
        rw [he, B_toList, decide_eq_true hn]
        simp only [bastionref14_Source.j0, Bool.true_and]
        cases (l.drop n == [58]) with
        | true =>
          simp only [if_true]
          rw [if_pos p1, if_pos p3, Int.toNat_natCast, B_extract, List.drop_zero, Nat.sub_zero, lowerR _ (by rw [List.length_take]; omega) _ (by rw [List.length_take]; omega)]
          rfl
        | false =>
          simp only [Bool.false_eq_true, if_false]
          exact host
      · have p0 : ¬ (n : Int) > 0 := by omega
        rw [if_neg p0, decide_eq_false hn]
        simp only [bastionref14_Source.j0, Bool.false_and, Bool.false_eq_true, if_false]
        exact host
  · have p : (l.length : Int) > 4096 := by omega
    rw [if_pos p, if_neg hl]
    rfl
theorem sources_l (ls : List ByteArray) (hn : ls.length ≤ 1048576) : ∀ (n k i : Nat) (acc : List S40), ls.length - i = n → n + 20001 < k → i ≤ ls.length → acc.length ≤ i →
    ∃ r : List S40, csp_Sources.l0 k acc ls (ls.length : Int) (i : Int) = some r ∧ bastionref14_Sources.l0 k acc ls (ls.length : Int) (i : Int) = some r ∧ r.length ≤ 1048576
  | 0, k, i, acc, hd, hk, hi, ha => by
    obtain ⟨k, rfl⟩ : ∃ m, k = m + 1 := ⟨k - 1, by omega⟩
    simp only [csp_Sources.l0, bastionref14_Sources.l0]
    have p : ¬ (i : Int) < (ls.length : Int) := by omega
    rw [if_neg p, if_neg p]
    exact ⟨acc, rfl, rfl, by omega⟩
  | n + 1, k, i, acc, hd, hk, hi, ha => by
    obtain ⟨k, rfl⟩ : ∃ m, k = m + 1 := ⟨k - 1, by omega⟩
    have hlt : i < ls.length := by omega
    obtain ⟨s, hs⟩ : ∃ s, rdOf ByteArray.empty ls (i : Int) = B s := ⟨(rdOf ByteArray.empty ls (i : Int)).data.toList, rfl⟩
    have p : (i : Int) < (ls.length : Int) := by omega
    have p0 : (0 : Int) ≤ (i : Int) := by omega
    have pa : acc.length < 1759218604441 := by omega
    have go := fun acc' h => sources_l ls hn n k (i + 1) acc' (by omega) (by omega) (by omega) h
    simp only [csp_Sources.l0, bastionref14_Sources.l0]
    rw [hs, sourceT s k (by omega), sourceR s k (by omega), w64s hlt (by omega)]
    simp only [Option.bind_some, if_pos p, if_pos p0, if_pos pa]
    split
    · exact go _ (by rw [List.length_append, List.length_singleton]; omega)
    · exact go _ (by omega)
theorem sameSrc_l (r : List S40) (hr : r.length ≤ 1048576) : ∀ (n k i : Nat), r.length - i = n → n < k → i ≤ r.length → bastionref14_SameSources.l0 k r r (r.length : Int) (i : Int) = some true
  | 0, k, i, hd, hk, hi => by
    obtain ⟨k, rfl⟩ : ∃ m, k = m + 1 := ⟨k - 1, by omega⟩
    simp only [bastionref14_SameSources.l0]
    have p : ¬ (i : Int) < (r.length : Int) := by omega
    rw [if_neg p]
  | n + 1, k, i, hd, hk, hi => by
    obtain ⟨k, rfl⟩ : ∃ m, k = m + 1 := ⟨k - 1, by omega⟩
    have hlt : i < r.length := by omega
    have p : (i : Int) < (r.length : Int) := by omega
    have p0 : (0 : Int) ≤ (i : Int) := by omega
    have ih := sameSrc_l r hr n k (i + 1) (by omega) (by omega) (by omega)
    simp only [bastionref14_SameSources.l0]
    rw [w64s hlt (by omega), if_pos p, if_pos p0, if_pos p, ih]
    simp
    exact hlt
theorem strs_len (l : List ByteArray) : l.length ≤ mStrs l := by
  unfold mStrs
  induction l with
  | nil => simp
  | cons a t ih => simp only [List.map_cons, List.sum_cons, List.length_cons] at *; unfold mStr at *; omega
theorem cspSources_pure (a0 : ByteArray) (x1 : List ByteArray) (h : a0.size + mStrs x1 ≤ 1048576) : ∃ k, bastionlaw14_CspSources.f k a0 x1 = some true := by
  have hn : x1.length ≤ 1048576 := by have := strs_len x1; omega
  obtain ⟨K, hK⟩ : ∃ K : Nat, 4000000 < K := ⟨4000001, by omega⟩
  obtain ⟨s, rfl⟩ : ∃ s, a0 = B s := ⟨a0.data.toList, rfl⟩
  refine ⟨K, ?_⟩
  obtain ⟨r, r1, r2, r3⟩ := sources_l x1 hn x1.length K 0 [] (by omega) (by omega) (by omega) (by simp)
  unfold bastionlaw14_CspSources.f bastionlaw14_lives.f csp_Sources.f bastionref14_Sources.f bastionref14_SameSources.f
  rw [sourceT s K (by omega), sourceR s K (by omega)]
  have r1' : csp_Sources.l0 K [] x1 (x1.length : Int) 0 = some r := r1
  have r2' : bastionref14_Sources.l0 K [] x1 (x1.length : Int) 0 = some r := r2
  have hs : bastionref14_SameSources.l0 K r r (r.length : Int) 0 = some true := sameSrc_l r r3 r.length K 0 (by omega) (by omega) (by omega)
  rw [r1', r2']
  simp only [Option.bind_some, if_true, beq_self_eq_true, Bool.true_and]
  rw [hs]
  rfl
end Go.Proofs.YtnndgmbflkdhkaaGreatDoor.Q
