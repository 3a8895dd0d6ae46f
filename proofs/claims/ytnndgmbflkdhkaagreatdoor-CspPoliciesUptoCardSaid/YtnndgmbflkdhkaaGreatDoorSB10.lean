/- The document's Header, plain: it is csp's. -/
/- What csp.Parse reads is right, and its text is read as it: plain. -/
/- CspHeaders, plain. -/
import Derived.Test.YtnndgmbflkdhkaaGreatDoorSRefP
import Derived.Test.YtnndgmbflkdhkaaGreatDoorSRefW
import Derived.Test.YtnndgmbflkdhkaaGreatDoorSHeader
import Derived.Test.YtnndgmbflkdhkaaGreatDoorSQbastionref14HeaderA
import Derived.Test.YtnndgmbflkdhkaaGreatDoorSB8
import Derived.Test.YtnndgmbflkdhkaaGreatDoorSParse
import Derived.Test.YtnndgmbflkdhkaaGreatDoorSB12
section
set_option linter.unusedSimpArgs false
set_option linter.unusedVariables false
namespace Go.Proofs.YtnndgmbflkdhkaaGreatDoor.Q
open Go.RowKit Go.Proofs.YtnndgmbflkdhkaaGreatDoorW.PrintWords Go.Proofs.YtnndgmbflkdhkaaGreatDoorW.PrintLast Go.Proofs.YtnndgmbflkdhkaaGreatDoorW.PrintMore Go.Proofs.YtnndgmbflkdhkaaGreatDoor.P1
theorem rdOf_map (L : List (List UInt8)) (i : Nat) (h : i < L.length) : rdOf ByteArray.empty (L.map B) (i : Int) = B L[i] := by
  unfold rdOf
  simp [List.getD_eq_getElem?_getD, h]
theorem hParts_cons (x : List UInt8) (t : List (List UInt8)) : hParts (x :: t) = parts 44 x ++ hParts t := by simp [hParts]
theorem refHd_l1 (rep : Bool) (L : List (List UInt8)) (n i : Int) (ps : List (List UInt8)) (hp : ps.length ≤ 2000000) : ∀ (m K j : Nat) (acc : List S25), ps.length - j = m → j ≤ ps.length → acc.length + m ≤ 4000000 →
    bastionref14_Header.l1 (m + K + 1) rep acc (L.map B) n i (ps.map B) (ps.length : Int) (j : Int) = if (headGo rep (ps.drop j) acc).1 = 0 then bastionref14_Header.l0 K rep (headGo rep (ps.drop j) acc).2 (L.map B) n (wrap64 (i + 1)) else some ([], (headGo rep (ps.drop j) acc).1)
  | 0, K, j, acc, hm, hj, ha => by
    rw [Nat.zero_add]
    simp only [bastionref14_Header.l1]
    rw [if_neg (by omega), List.drop_eq_nil_of_le (by omega)]
    rfl
  | m + 1, K, j, acc, hm, hj, ha => by
    have hlt : j < ps.length := by omega
    have hw : wrap64 ((j : Int) + 1) = ((j + 1 : Nat) : Int) := by rw [w64 (by omega) (by omega)]; omega
    have ih := fun acc ha => refHd_l1 rep L n i ps hp m K (j + 1) acc (by omega) (by omega) ha
    rw [show m + 1 + K + 1 = (m + K + 1) + 1 by omega]
    generalize m + K + 1 = q at ih ⊢
    simp only [bastionref14_Header.l1]
    rw [if_pos (by omega), if_pos (by omega), if_pos (by rw [List.length_map]; omega), rdOf_map ps j hlt, List.drop_eq_getElem_cons hlt, headGo_cons, hw]
    unfold bastionref14_Parse.f
    rw [pErr_f]
    simp only [Option.bind_some]
    by_cases h0 : (pErr ps[j]).1 = 0
    · rw [if_pos h0, if_pos h0, if_pos h0]
      cases hd : (pErr ps[j]).2 with
      | nil =>
        simp only [List.length_nil, if_true]
        rw [if_neg (by omega)]
        exact ih acc (by omega)
      | cons d ds =>
        rw [if_pos (by simp only [List.length_cons]; omega), if_pos (by omega), if_neg (show ¬ (d :: ds : List S35) = [] by simp)]
        exact ih _ (by rw [List.length_append, List.length_singleton]; omega)
    · rw [if_neg h0, if_neg h0, if_neg h0]
def hFuel (L : List (List UInt8)) : Nat := (L.map fun x => (parts 44 x).length + 2).sum
theorem refHd_l0 (rep : Bool) (L : List (List UInt8)) (hL : L.length ≤ 1048576) (hx : ∀ x ∈ L, x.length ≤ 1048576) : ∀ (m k i : Nat) (acc : List S25), L.length - i = m → i ≤ L.length → hFuel (L.drop i) + 1048600 < k → acc.length + hFuel (L.drop i) ≤ 3999999 →
    bastionref14_Header.l0 k rep acc (L.map B) (L.length : Int) (i : Int) = some (if (headGo rep (hParts (L.drop i)) acc).1 = 0 then (if (headGo rep (hParts (L.drop i)) acc).2.length > 64 then ([], 3) else ((headGo rep (hParts (L.drop i)) acc).2, 0)) else ([], (headGo rep (hParts (L.drop i)) acc).1))
  | 0, k, i, acc, hm, hi, hk, ha => by
    obtain ⟨k, rfl⟩ : ∃ q, k = q + 1 := ⟨k - 1, by omega⟩
    simp only [bastionref14_Header.l0]
    rw [if_neg (by omega), List.drop_eq_nil_of_le (by omega)]
    show (if (acc.length : Int) > 64 then _ else _) = some (if (0 : Int) = 0 then (if acc.length > 64 then _ else _) else _)
    rw [if_pos rfl]
    by_cases h : acc.length > 64
    · rw [if_pos (by omega), if_pos h]
    · rw [if_neg (by omega), if_neg h]
      rfl
  | m + 1, k, i, acc, hm, hi, hk, ha => by
    obtain ⟨k, rfl⟩ : ∃ q, k = q + 1 := ⟨k - 1, by omega⟩
    have hlt : i < L.length := by omega
    have hxi := hx _ (List.getElem_mem hlt)
    have hpc := parts_count 44 L[i]
    rw [List.drop_eq_getElem_cons hlt] at hk ha ⊢
    have hf : hFuel (L[i] :: L.drop (i + 1)) = (parts 44 L[i]).length + 2 + hFuel (L.drop (i + 1)) := by unfold hFuel; rw [List.map_cons, List.sum_cons]
    rw [hf] at hk ha
    have HW : Hid (wrap64 ((i : Int) + 1) = ((i + 1 : Nat) : Int)) := Lib.hid (by rw [w64 (by omega) (by omega)]; omega)
    have hsp := splitR L[i] 44 hxi k (by omega)
    rw [show ((UInt8.toNat 44 : Nat) : Int) = 44 from rfl] at hsp
    simp only [bastionref14_Header.l0]
    rw [if_pos (by omega), if_pos (by omega), if_pos (by rw [List.length_map]; omega), rdOf_map L i hlt, hsp]
    simp only [Option.bind_some, List.length_map]
    obtain ⟨K, rfl⟩ : ∃ K, k = (parts 44 L[i]).length + K + 1 := ⟨k - (parts 44 L[i]).length - 1, by omega⟩
    have h1 := refHd_l1 rep L (L.length : Int) (i : Int) (parts 44 L[i]) (by omega) (parts 44 L[i]).length K 0 acc rfl (by omega) (by omega)
    rw [show ((0 : Nat) : Int) = 0 from rfl] at h1
    have hlen := headGo_len rep (parts 44 L[i]) acc
    rw [h1, List.drop_zero, hParts_cons, headGo_append, HW.out]
    by_cases h0 : (headGo rep (parts 44 L[i]) acc).1 = 0
    · rw [if_pos h0, if_pos h0]
      exact refHd_l0 rep L hL hx m K (i + 1) _ (by omega) (by omega) (by omega) (by omega)
    · rw [if_neg h0, if_neg h0, if_neg (by exact h0)]
theorem hFuel_le : ∀ L : List (List UInt8), hFuel L ≤ 3 * ((L.map B).map fun s => s.size + 1).sum
  | [] => by simp [hFuel]
  | x :: t => by
    have ih := hFuel_le t
    have h4 := parts_count 44 x
    have e : hFuel (x :: t) = (parts 44 x).length + 2 + hFuel t := by unfold hFuel; rw [List.map_cons, List.sum_cons]
    rw [e]
    simp only [List.map_cons, List.sum_cons, B_size]
    omega
theorem refHeader_f (L : List (List UInt8)) (rep : Bool) (h : ((L.map B).map fun s => s.size + 1).sum ≤ 1048576) (k : Nat) (hk : 4300000 < k) : bastionref14_Header.f k (L.map B) rep = some (headF rep L) := by
  obtain ⟨_, h2, h3⟩ := hParts_count L
  have h4 := hFuel_le L
  unfold bastionref14_Header.f headF
  rw [List.length_map]
  have := refHd_l0 rep L (by omega) (fun x hx => by have := h3 x hx; omega) L.length k 0 [] (by omega) (by omega) (by rw [List.drop_zero]; omega) (by rw [List.drop_zero, List.length_nil]; omega)
  rw [List.drop_zero, show ((0 : Nat) : Int) = 0 from rfl] at this
  exact this
end Go.Proofs.YtnndgmbflkdhkaaGreatDoor.Q
end
section
set_option linter.unusedSimpArgs false
set_option linter.unusedVariables false
namespace Go.Proofs.YtnndgmbflkdhkaaGreatDoor.Q
open Go.RowKit Go.Proofs.YtnndgmbflkdhkaaGreatDoorW.PrintWords Go.Proofs.YtnndgmbflkdhkaaGreatDoorW.PrintLast Go.Proofs.YtnndgmbflkdhkaaGreatDoorW.PrintMore Go.Proofs.YtnndgmbflkdhkaaGreatDoor.P1
/-- a word; a name -/
def gdV (x : List UInt8) : Prop := x ≠ [] ∧ x.length ≤ 4096 ∧ ∀ b ∈ x, bl b = false ∧ b ≠ 59
def gdN (x : List UInt8) : Prop := gdV x ∧ ∀ b ∈ x, lowC b = b
def gd (d : S35) : Prop := ∃ (x : List UInt8) (vs : List (List UInt8)), d = ⟨B x, vs.map B⟩ ∧ gdN x ∧ (∀ v ∈ vs, gdV v) ∧ vs.length ≤ 64
def Good (ds : List S35) : Prop := ds.length ≤ 64 ∧ (∀ d ∈ ds, gd d) ∧ ds.Pairwise (fun a b => a.f0.toList ≠ b.f0.toList)
theorem lowC_keeps (b : UInt8) : lowC (lowC b) = lowC b ∧ (bl b = false → bl (lowC b) = false) ∧ (b ≠ 59 → lowC b ≠ 59) := all_c (p := fun b => lowC (lowC b) = lowC b ∧ (bl b = false → bl (lowC b) = false) ∧ (b ≠ 59 → lowC b ≠ 59)) (by decide +kernel) b
theorem gdN_low {x : List UInt8} (h : gdV x) : gdN (low x) := by
  obtain ⟨h1, h2, h3⟩ := h
  refine ⟨⟨by simpa [low] using h1, by rw [low_length]; exact h2, fun b hb => ?_⟩, fun b hb => ?_⟩
  · obtain ⟨c, hc, rfl⟩ := List.mem_map.1 hb
    exact ⟨(lowC_keeps c).2.1 (h3 c hc).1, (lowC_keeps c).2.2 (h3 c hc).2⟩
  · obtain ⟨c, hc, rfl⟩ := List.mem_map.1 hb
    exact (lowC_keeps c).1
theorem piece_words {p y : List UInt8} {vs : List (List UInt8)} (hp : 59 ∉ p) (hl : p.length ≤ 4096) (h : wordsL p = y :: vs) : gdV y ∧ ∀ v ∈ vs, gdV v := by
  have key : ∀ v ∈ wordsL p, gdV v := fun v hv => by
    have := wordsL_mem p v hv
    refine ⟨this.1, Nat.le_trans ((wordsL_len p).2 v hv).2 hl, fun b hb => ⟨(this.2 b hb).1, fun e => hp ?_⟩⟩
    rw [← e]; exact (this.2 b hb).2
  rw [h] at key
  exact ⟨key y (by simp), fun v hv => key v (by simp [hv])⟩
theorem any_false {acc : List S35} {z : List UInt8} (h : acc.any (fun e => e.f0.toList == z) = false) : ∀ e ∈ acc, e.f0.toList ≠ z := by
  intro e he
  have := List.any_eq_false.1 h e he
  simpa using this
theorem good_snoc {acc : List S35} {d : S35} (h : Good acc) (hd : gd d) (hl : acc.length < 64) (hn : ∀ e ∈ acc, e.f0.toList ≠ d.f0.toList) : Good (acc ++ [d]) := by
  refine ⟨by simp; omega, fun e he => ?_, ?_⟩
  · rcases List.mem_append.1 he with he | he
    · exact h.2.1 e he
    · simp at he; subst he; exact hd
  · rw [List.pairwise_append]
    exact ⟨h.2.2, by simp, fun a ha b hb => by simp at hb; subst hb; exact hn a ha⟩
theorem parse_good : ∀ (ps : List (List UInt8)) (acc ds : List S35), (∀ p ∈ ps, 59 ∉ p ∧ p.length ≤ 4096) → Good acc → parseGo ps acc = some ds → Good ds
  | [], acc, ds, _, hg, h => by cases h; exact hg
  | p :: ps, acc, ds, hp, hg, h => by
    have hps : ∀ p ∈ ps, 59 ∉ p ∧ p.length ≤ 4096 := fun q hq => hp q (List.mem_cons_of_mem _ hq)
    unfold parseGo at h
    split at h
    · exact parse_good ps acc ds hps hg h
    · rename_i x vs hw
      obtain ⟨h1, h2⟩ := piece_words (hp p (by simp)).1 (hp p (by simp)).2 hw
      split at h
      · exact parse_good ps acc ds hps hg h
      · rename_i ha
        split at h
        · cases h
        · rename_i hm
          refine parse_good ps _ ds hps (good_snoc hg ⟨low x, vs, rfl, gdN_low h1, h2, by omega⟩ (by omega) ?_) h
          exact any_false (by simpa using ha)
theorem good_nil : Good [] := ⟨by simp, by simp, List.Pairwise.nil⟩
theorem parse_Good {s : List UInt8} (hs : s.length ≤ 4096) {ds : List S35} (h : parseGo (parts 59 s) [] = some ds) : Good ds :=
  parse_good _ _ _ (fun p hp => ⟨(parts_mem 59 s p hp).1, Nat.le_trans (parts_len 59 s p hp) hs⟩) good_nil h
end Go.Proofs.YtnndgmbflkdhkaaGreatDoor.Q
end
section
set_option linter.unusedSimpArgs false
set_option linter.unusedVariables false
namespace Go.Proofs.YtnndgmbflkdhkaaGreatDoor.Q
open Go.RowKit Go.Proofs.YtnndgmbflkdhkaaGreatDoorW.PrintWords Go.Proofs.YtnndgmbflkdhkaaGreatDoorW.PrintLast Go.Proofs.YtnndgmbflkdhkaaGreatDoorW.PrintMore Go.Proofs.YtnndgmbflkdhkaaGreatDoor.P1
theorem good_same2 {ds : List S35} (h : Good ds) (r : Bool) (k : Nat) (hk : 200 < k) : bastionref14_Same.f k ds r ds r = some true :=
  same_refl ds r 64 (by omega) (by have := h.1; omega) (fun d hd => by obtain ⟨x, vs, rfl, _, _, hl⟩ := h.2.1 d hd; simpa using hl) k (by have := h.1; omega)
theorem pErr_good (y : List UInt8) : Good (pErr y).2 := by
  unfold pErr
  split
  · rename_i hs
    cases hp : parseGo (parts 59 y) [] with
    | none => exact good_nil
    | some ds => exact parse_Good hs hp
  · exact good_nil
theorem headGo_good (rep : Bool) : ∀ (a : List (List UInt8)) (acc : List S25), (∀ p ∈ acc, Good p.f0) → ∀ p ∈ (headGo rep a acc).2, Good p.f0
  | [], acc, h => h
  | x :: ps, acc, h => by
    rw [headGo_cons]
    split
    · refine headGo_good rep ps _ ?_
      split
      · exact h
      · intro p hp
        rcases List.mem_append.1 hp with hp | hp
        · exact h p hp
        · simp at hp; subst hp; exact pErr_good x
    · intro p hp; cases hp
theorem headF_good (rep : Bool) (l : List (List UInt8)) : (headF rep l).1.length ≤ 64 ∧ ∀ p ∈ (headF rep l).1, Good p.f0 := by
  unfold headF
  split
  · split
    · exact ⟨by simp, fun p hp => by cases hp⟩
    · exact ⟨by simp only; omega, headGo_good rep _ [] (fun p hp => by cases hp)⟩
  · exact ⟨by simp, fun p hp => by cases hp⟩
theorem sameAll_l (ps : List S25) (hn : ps.length ≤ 1048576) (hd : ∀ p ∈ ps, Good p.f0) : ∀ (n k i : Nat), ps.length - i = n → n + 300 < k → i ≤ ps.length → bastionref14_SameAll.l0 k ps ps (ps.length : Int) (i : Int) = some true
  | 0, k, i, hn', hk, hi => by
    obtain ⟨k, rfl⟩ : ∃ m, k = m + 1 := ⟨k - 1, by omega⟩
    simp only [bastionref14_SameAll.l0]
    rw [if_neg (by omega)]
  | n + 1, k, i, hn', hk, hi => by
    obtain ⟨k, rfl⟩ : ∃ m, k = m + 1 := ⟨k - 1, by omega⟩
    have hw : wrap64 ((i : Int) + 1) = ((i + 1 : Nat) : Int) := by rw [w64 (by omega) (by omega)]; omega
    have hr : rd_T25 ps (i : Int) = ps[i]'(by omega) := by
      unfold rd_T25
      simp [List.getD_eq_getElem?_getD, (by omega : i < ps.length)]
    have hm := hd _ (List.getElem_mem (by omega : i < ps.length))
    simp only [bastionref14_SameAll.l0]
    rw [if_pos (by omega), if_pos (by omega), if_pos (by omega), if_pos (by omega), hr, good_same2 hm _ k (by omega), hw]
    simp only [Option.bind_some, if_true]
    exact sameAll_l ps hn hd n k (i + 1) (by omega) (by omega) (by omega)
theorem sameAll_refl (ps : List S25) (hn : ps.length ≤ 1048576) (hd : ∀ p ∈ ps, Good p.f0) (k : Nat) (hk : ps.length + 300 < k) : bastionref14_SameAll.f k ps ps = some true := by
  unfold bastionref14_SameAll.f
  rw [if_pos rfl]
  exact sameAll_l ps hn hd ps.length k 0 (by omega) hk (by omega)
theorem header_f (l : List (List UInt8)) (rep : Bool) (h : ((l.map B).map fun s => s.size + 1).sum ≤ 1099511627776) : csp_Header.f (l.map B) rep = some (headF rep l) := by
  unfold csp_Header.f
  rw [if_pos h, List.map_map]
  have : l.map ((fun s : ByteArray => s.data.toList) ∘ B) = l := by
    conv => rhs; rw [← List.map_id l]
    exact List.map_congr_left (fun x _ => B_data x)
  rw [this]
end Go.Proofs.YtnndgmbflkdhkaaGreatDoor.Q
end
