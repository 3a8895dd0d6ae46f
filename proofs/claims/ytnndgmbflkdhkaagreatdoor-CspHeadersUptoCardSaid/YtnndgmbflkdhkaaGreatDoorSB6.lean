/- bastionref14.Same at two that are one: plain. -/
/- CspSplits, plain: what stands between semicolons is read by itself. -/
/- csp.hosted in print's form. -/
import Derived.Test.YtnndgmbflkdhkaaGreatDoorSB5
import Derived.Test.YtnndgmbflkdhkaaGreatDoorSQbastionref14SameA
import Derived.Test.YtnndgmbflkdhkaaGreatDoorSBackP
import Derived.Test.YtnndgmbflkdhkaaGreatDoorSHost
section
set_option linter.unusedSimpArgs false
set_option linter.unusedVariables false
namespace Go.Proofs.YtnndgmbflkdhkaaGreatDoor.Q
open Go.RowKit Go.Proofs.YtnndgmbflkdhkaaGreatDoorW.PrintWords Go.Proofs.YtnndgmbflkdhkaaGreatDoorW.PrintLast Go.Proofs.YtnndgmbflkdhkaaGreatDoorW.PrintMore Go.Proofs.YtnndgmbflkdhkaaGreatDoor.P1
theorem sameWords_l (l : List ByteArray) (hl : l.length ≤ 1048576) : ∀ (d k i : Nat), l.length - i = d → d < k → i ≤ l.length → bastionref14_SameWords.l0 k l l (l.length : Int) (i : Int) = some true
  | 0, k, i, hd, hk, hi => by
    obtain ⟨k, rfl⟩ : ∃ m, k = m + 1 := ⟨k - 1, by omega⟩
    unfold bastionref14_SameWords.l0
    rw [if_neg (by omega)]
  | d + 1, k, i, hd, hk, hi => by
    obtain ⟨k, rfl⟩ : ∃ m, k = m + 1 := ⟨k - 1, by omega⟩
    have hw : wrap64 ((i : Int) + 1) = ((i + 1 : Nat) : Int) := by rw [w64 (by omega) (by omega)]; omega
    unfold bastionref14_SameWords.l0
    rw [if_pos (by omega), if_pos (by omega), if_pos (by omega), if_pos (by omega), if_pos rfl, hw]
    exact sameWords_l l hl d k (i + 1) (by omega) (by omega) (by omega)
theorem sameWords_refl (l : List ByteArray) (hl : l.length ≤ 1048576) (k : Nat) (hk : l.length < k) : bastionref14_SameWords.f k l l = some true := by
  unfold bastionref14_SameWords.f
  rw [if_pos rfl]
  exact sameWords_l l hl l.length k 0 (by omega) hk (by omega)
theorem sameDir_refl (x : ByteArray) (l : List ByteArray) (hl : l.length ≤ 1048576) (k : Nat) (hk : l.length < k) : bastionref14_SameDirective.f k x l x l = some true := by
  unfold bastionref14_SameDirective.f
  rw [if_pos rfl, sameWords_refl l hl k hk]; rfl
theorem same_l (ds : List S35) (r : Bool) (M : Nat) (hM : M ≤ 1048576) (hn : ds.length ≤ 1048576) (hd : ∀ d ∈ ds, d.f1.length ≤ M) : ∀ (n k i : Nat), ds.length - i = n → n + M < k → i ≤ ds.length → bastionref14_Same.l0 k (ds.length : Int) (i : Int) ds r ds r = some true
  | 0, k, i, hn', hk, hi => by
    obtain ⟨k, rfl⟩ : ∃ m, k = m + 1 := ⟨k - 1, by omega⟩
    unfold bastionref14_Same.l0
    rw [if_neg (by omega)]
  | n + 1, k, i, hn', hk, hi => by
    obtain ⟨k, rfl⟩ : ∃ m, k = m + 1 := ⟨k - 1, by omega⟩
    have hw : wrap64 ((i : Int) + 1) = ((i + 1 : Nat) : Int) := by rw [w64 (by omega) (by omega)]; omega
    have hr : rd_T35 ds (i : Int) = ds[i]'(by omega) := by
      unfold rd_T35
      simp [List.getD_eq_getElem?_getD, (by omega : i < ds.length)]
    have hm := hd _ (List.getElem_mem (by omega : i < ds.length))
    unfold bastionref14_Same.l0
    rw [if_pos (by omega), if_pos (by omega), if_pos (by omega), if_pos (by omega), hr, sameDir_refl _ _ (by omega) k (by omega), hw]
    simp only [Option.bind_some, if_true]
    exact same_l ds r M hM hn hd n k (i + 1) (by omega) (by omega) (by omega)
theorem same_refl (ds : List S35) (r : Bool) (M : Nat) (hM : M ≤ 1048576) (hn : ds.length ≤ 1048576) (hd : ∀ d ∈ ds, d.f1.length ≤ M) (k : Nat) (hk : ds.length + M + 1 < k) : bastionref14_Same.f k ds r ds r = some true := by
  obtain ⟨k, rfl⟩ : ∃ m, k = m + 1 := ⟨k - 1, by omega⟩
  unfold bastionref14_Same.f
  rw [if_neg (by simp)]
  simp only [bastionref14_Same.j0]
  rw [if_neg (by simp)]
  exact same_l ds r M hM hn hd ds.length k 0 (by omega) (by omega) (by omega)
end Go.Proofs.YtnndgmbflkdhkaaGreatDoor.Q
end
section
set_option linter.unusedSimpArgs false
set_option linter.unusedVariables false
namespace Go.Proofs.YtnndgmbflkdhkaaGreatDoor.Q
open Go.RowKit Go.Proofs.YtnndgmbflkdhkaaGreatDoorW.PrintWords Go.Proofs.YtnndgmbflkdhkaaGreatDoorW.PrintLast Go.Proofs.YtnndgmbflkdhkaaGreatDoorW.PrintMore Go.Proofs.YtnndgmbflkdhkaaGreatDoor.P1
theorem parse_single {a : List UInt8} {xs : List S35} (h : parseGo [a] [] = some xs) : xs = [] ∨ ∃ (y : List UInt8) (vs : List (List UInt8)), wordsL a = y :: vs ∧ vs.length ≤ 64 ∧ xs = [(⟨B (low y), vs.map B⟩ : S35)] := by
  cases hw : wordsL a with
  | nil => rw [parse_nil a [] hw] at h; cases h; exact .inl rfl
  | cons y vs =>
    by_cases hm : vs.length > 64 ∨ ([] : List S35).length ≥ 64
    · rw [parse_many a y vs [] hw rfl hm] at h; cases h
    · rw [parse_more a y vs [] hw rfl hm] at h
      cases h
      exact .inr ⟨y, vs, rfl, by omega, rfl⟩
/-- two pieces, read one behind the other -/
theorem parse_two {a b : List UInt8} {dx dy : S35} (ha : parseGo [a] [] = some [dx]) (hb : parseGo [b] [] = some [dy]) (hne : dx.f0.toList ≠ dy.f0.toList) : parseGo [a, b] [] = some [dx, dy] := by
  have e : [a, b] = [a] ++ [b] := rfl
  rw [e, parseGo_append, ha, Option.bind_some]
  rcases parse_single hb with h | ⟨y, vs, hw, hl, h⟩
  · cases h
  · obtain rfl : dy = _ := List.singleton_inj.1 h
    rw [parse_more b y vs [dx] hw ?_ (by simp; omega)]
    · rfl
    · rw [List.any_cons, List.any_nil, Bool.or_false]
      exact beq_eq_false_iff_ne.2 hne
theorem parts_two {a b : List UInt8} (ha : 59 ∉ a) (hb : 59 ∉ b) : parts 59 (a ++ 59 :: b) = [a, b] := by
  rw [parts_app, parts_one 59 a ha, parts_one 59 b hb]; rfl
end Go.Proofs.YtnndgmbflkdhkaaGreatDoor.Q
end
section
set_option linter.unusedSimpArgs false
set_option linter.unusedVariables false
namespace Go.Proofs.YtnndgmbflkdhkaaGreatDoor.Q
open Go.RowKit Go.Proofs.YtnndgmbflkdhkaaGreatDoorW.PrintWords Go.Proofs.YtnndgmbflkdhkaaGreatDoorW.PrintLast Go.Proofs.YtnndgmbflkdhkaaGreatDoorW.PrintMore Go.Proofs.YtnndgmbflkdhkaaGreatDoor.P1
def csp_hosted.f (a0 : ByteArray) : Option (Int × ByteArray × ByteArray × Bool × Int × Bool × Bool × ByteArray × Bool) :=
  if a0.size ≤ 1048576 then some (5, B (hostF a0.data.toList).1, B (hostF a0.data.toList).2.1, (hostF a0.data.toList).2.2.1, (hostF a0.data.toList).2.2.2.1, (hostF a0.data.toList).2.2.2.2.1, (hostF a0.data.toList).2.2.2.2.2.1, B (hostF a0.data.toList).2.2.2.2.2.2.1, (hostF a0.data.toList).2.2.2.2.2.2.2) else none
theorem csp_hosted.calls (a0 : ByteArray) (r1 : Int) (r2 : ByteArray) (r3 : ByteArray) (r4 : Bool) (r5 : Int) (r6 : Bool) (r7 : Bool) (r8 : ByteArray) (r9 : Bool) (w : World) (hT : UTabs w) (h : csp_hosted.f a0 = some (r1, r2, r3, r4, r5, r6, r7, r8, r9)) :
    Calls Tryz.prog 42 #[.string a0] w fun e w' => e = .returned (.tuple #[.agg #[.int .u8 r1, .string r2, .string r3, .bool r4, .int .i64 r5, .bool r6, .bool r7, .string r8], .bool r9]) ∧ Below w.heap.size w w' := by
  unfold csp_hosted.f at h
  split at h
  · rename_i hs
    have h2 := Option.some.inj h
    simp only [Prod.mk.injEq] at h2
    obtain ⟨rfl, rfl, rfl, rfl, rfl, rfl, rfl, rfl, rfl⟩ := h2
    have := hosted_any a0.data.toList (by rw [Array.length_toList]; exact hs) w hT
    exact this
  · cases h
end Go.Proofs.YtnndgmbflkdhkaaGreatDoor.Q
end
