/- csp.hosted: what it answers at every text. -/
import Derived.Test.YtnndgmbflkdhkaaGreatDoorSB7
import Derived.Test.YtnndgmbflkdhkaaGreatDoorSWords
import Derived.Test.YtnndgmbflkdhkaaGreatDoorSB5
import Derived.Test.YtnndgmbflkdhkaaGreatDoorSB3
import Derived.StillTailTactics
import Derived.RegionTactic
import Derived.Deep.RegionWith
import Derived.Laws.CopyRow
import Derived.Laws.Runes
set_option linter.unusedSimpArgs false
set_option linter.unusedVariables false
namespace Go.Proofs.YtnndgmbflkdhkaaGreatDoor.Q
open Go.RowKit Go.Proofs.YtnndgmbflkdhkaaGreatDoorW.PrintWords Go.Proofs.YtnndgmbflkdhkaaGreatDoorW.PrintLast Go.Proofs.YtnndgmbflkdhkaaGreatDoorW.PrintMore Go.Proofs.YtnndgmbflkdhkaaGreatDoor.P1
section
variable {P : Program} {Q : Exit → Act → World → Prop} {a : Act} {w : World}
theorem then_mono {K K' : Act → World → Prop} (h : ∀ a w, K a w → K' a w) : ∀ e a w, Exit.then K Q e a w → Exit.then K' Q e a w := fun e a w hh => by
  cases e <;> first | exact h _ _ hh | exact hh
theorem cut1 {x y : Code} (Mid : Act → World → Prop) (hx : x.wp P (Exit.then Mid Q) a w) (hy : ∀ a w, Mid a w → y.wp P Q a w) : (Code.seq x y).wp P Q a w :=
  wp_seq (Code.wp_mono (then_mono hy) hx)
theorem cut2 {r x y : Code} (Mid : Act → World → Prop) (hx : r.wp P (Exit.then (fun a w => x.wp P (Exit.then Mid Q) a w) Q) a w) (hy : ∀ a w, Mid a w → y.wp P Q a w) : (Code.seq r (Code.seq x y)).wp P Q a w :=
  wp_seq (Code.wp_mono (then_mono fun _ _ h => cut1 Mid h hy) hx)
theorem cut3 {r0 r1 x y : Code} (Mid : Act → World → Prop) (hx : r0.wp P (Exit.then (fun a w => r1.wp P (Exit.then (fun a w => x.wp P (Exit.then Mid Q) a w) Q) a w) Q) a w) (hy : ∀ a w, Mid a w → y.wp P Q a w) : (Code.seq r0 (Code.seq r1 (Code.seq x y))).wp P Q a w :=
  wp_seq (Code.wp_mono (then_mono fun _ _ h => cut2 Mid h hy) hx)
end
theorem heap_newH (w : World) (o : Obj) : (w.alloc o).heap[w.heap.size]? = some o := by unfold World.alloc; exact Array.getElem?_push_size
theorem blk_set_ne {W : World} {b b' j : Nat} {o : Obj} {v : Value} (hn : b ≠ b') (h : W.heap[b]? = some o) : (W.setCell ⟨b', j, none⟩ v).heap[b]? = some o := (Below.heap_setCell W ⟨b', j, none⟩ v b hn).trans h
def srcArr (k : Int) (tx sc : List UInt8) (wild : Bool) (p : Int) (hp ap : Bool) (path : List UInt8) : Array Value := #[.int .u8 k, .string (B tx), .string (B sc), .bool wild, .int .i64 p, .bool hp, .bool ap, .string (B path)]
theorem chain8 {W : World} {b : Nat} {t : TypeId} {a0 a1 a2 a3 a4 a5 a6 a7 : Value} (h : W.heap[b]? = some (.cells #[a0, a1, a2, a3, a4, a5, a6, a7] t (0, 0))) (v0 v1 v2 v3 v4 v5 v6 v7 : Value) :
    ((((((((W.setCell ⟨b, 0, none⟩ v0).setCell ⟨b, 1, none⟩ v1).setCell ⟨b, 2, none⟩ v2).setCell ⟨b, 3, none⟩ v3).setCell ⟨b, 4, none⟩ v4).setCell ⟨b, 5, none⟩ v5).setCell ⟨b, 6, none⟩ v6).setCell ⟨b, 7, none⟩ v7).heap[b]? = some (.cells #[v0, v1, v2, v3, v4, v5, v6, v7] t (0, 0)) := by
  have h0 : (W.setCell ⟨b, 0, none⟩ v0).heap[b]? = some (.cells #[v0, a1, a2, a3, a4, a5, a6, a7] t (0, 0)) := (setCell_blk (j := 0) v0 h).trans (by simp)
  have h1 : ((W.setCell ⟨b, 0, none⟩ v0).setCell ⟨b, 1, none⟩ v1).heap[b]? = some (.cells #[v0, v1, a2, a3, a4, a5, a6, a7] t (0, 0)) := (setCell_blk (j := 1) v1 h0).trans (by simp)
  have h2 : (((W.setCell ⟨b, 0, none⟩ v0).setCell ⟨b, 1, none⟩ v1).setCell ⟨b, 2, none⟩ v2).heap[b]? = some (.cells #[v0, v1, v2, a3, a4, a5, a6, a7] t (0, 0)) := (setCell_blk (j := 2) v2 h1).trans (by simp)
  have h3 : ((((W.setCell ⟨b, 0, none⟩ v0).setCell ⟨b, 1, none⟩ v1).setCell ⟨b, 2, none⟩ v2).setCell ⟨b, 3, none⟩ v3).heap[b]? = some (.cells #[v0, v1, v2, v3, a4, a5, a6, a7] t (0, 0)) := (setCell_blk (j := 3) v3 h2).trans (by simp)
  have h4 : (((((W.setCell ⟨b, 0, none⟩ v0).setCell ⟨b, 1, none⟩ v1).setCell ⟨b, 2, none⟩ v2).setCell ⟨b, 3, none⟩ v3).setCell ⟨b, 4, none⟩ v4).heap[b]? = some (.cells #[v0, v1, v2, v3, v4, a5, a6, a7] t (0, 0)) := (setCell_blk (j := 4) v4 h3).trans (by simp)
  have h5 : ((((((W.setCell ⟨b, 0, none⟩ v0).setCell ⟨b, 1, none⟩ v1).setCell ⟨b, 2, none⟩ v2).setCell ⟨b, 3, none⟩ v3).setCell ⟨b, 4, none⟩ v4).setCell ⟨b, 5, none⟩ v5).heap[b]? = some (.cells #[v0, v1, v2, v3, v4, v5, a6, a7] t (0, 0)) := (setCell_blk (j := 5) v5 h4).trans (by simp)
  have h6 : (((((((W.setCell ⟨b, 0, none⟩ v0).setCell ⟨b, 1, none⟩ v1).setCell ⟨b, 2, none⟩ v2).setCell ⟨b, 3, none⟩ v3).setCell ⟨b, 4, none⟩ v4).setCell ⟨b, 5, none⟩ v5).setCell ⟨b, 6, none⟩ v6).heap[b]? = some (.cells #[v0, v1, v2, v3, v4, v5, v6, a7] t (0, 0)) := (setCell_blk (j := 6) v6 h5).trans (by simp)
  have h7 : ((((((((W.setCell ⟨b, 0, none⟩ v0).setCell ⟨b, 1, none⟩ v1).setCell ⟨b, 2, none⟩ v2).setCell ⟨b, 3, none⟩ v3).setCell ⟨b, 4, none⟩ v4).setCell ⟨b, 5, none⟩ v5).setCell ⟨b, 6, none⟩ v6).setCell ⟨b, 7, none⟩ v7).heap[b]? = some (.cells #[v0, v1, v2, v3, v4, v5, v6, v7] t (0, 0)) := (setCell_blk (j := 7) v7 h6).trans (by simp)
  exact h7
theorem chain8_below {B : Nat} {w W : World} {b : Nat} (hb : B ≤ b) (h : Below B w W) (v0 v1 v2 v3 v4 v5 v6 v7 : Value) :
    Below B w ((((((((W.setCell ⟨b, 0, none⟩ v0).setCell ⟨b, 1, none⟩ v1).setCell ⟨b, 2, none⟩ v2).setCell ⟨b, 3, none⟩ v3).setCell ⟨b, 4, none⟩ v4).setCell ⟨b, 5, none⟩ v5).setCell ⟨b, 6, none⟩ v6).setCell ⟨b, 7, none⟩ v7) :=
  (((((((h.setCell (p := ⟨b, 0, none⟩) hb _).setCell (p := ⟨b, 1, none⟩) hb _).setCell (p := ⟨b, 2, none⟩) hb _).setCell (p := ⟨b, 3, none⟩) hb _).setCell (p := ⟨b, 4, none⟩) hb _).setCell (p := ⟨b, 5, none⟩) hb _).setCell (p := ⟨b, 6, none⟩) hb _).setCell (p := ⟨b, 7, none⟩) hb _
def hostArr (s : Value) (rb xb : Nat) (u : Nat → Value) : Array Value := #[s, u 1, .pointer (some ⟨rb, 0, none⟩), .bool false, .pointer (some ⟨xb, 0, none⟩), u 5, u 6, u 7, u 8, u 9, u 10, u 11, u 12, u 13, u 14, u 15, u 16, u 17, u 18, u 19, u 20, u 21, u 22, u 23, u 24, u 25, u 26, u 27, u 28, u 29, u 30, u 31, u 32, u 33, u 34, u 35, u 36, u 37, u 38, u 39, u 40, u 41, u 42, u 43, u 44, u 45, u 46, u 47, u 48, u 49, u 50, u 51, u 52, u 53, u 54, u 55, u 56, u 57, u 58, u 59, u 60, u 61, u 62, u 63, u 64, u 65, u 66, u 67, u 68, u 69, u 70, u 71, u 72, u 73, u 74, u 75, u 76, u 77, u 78, u 79, u 80, u 81, u 82, u 83, u 84, u 85, u 86, u 87, u 88, u 89, u 90, u 91, u 92]
def hostArr6 (s : Value) (rb xb : Nat) (must : Bool) (u : Nat → Value) : Array Value := #[s, u 1, .pointer (some ⟨rb, 0, none⟩), .bool false, .pointer (some ⟨xb, 0, none⟩), u 5, .bool must, u 7, u 8, u 9, u 10, u 11, u 12, u 13, u 14, u 15, u 16, u 17, u 18, u 19, u 20, u 21, u 22, u 23, u 24, u 25, u 26, u 27, u 28, u 29, u 30, u 31, u 32, u 33, u 34, u 35, u 36, u 37, u 38, u 39, u 40, u 41, u 42, u 43, u 44, u 45, u 46, u 47, u 48, u 49, u 50, u 51, u 52, u 53, u 54, u 55, u 56, u 57, u 58, u 59, u 60, u 61, u 62, u 63, u 64, u 65, u 66, u 67, u 68, u 69, u 70, u 71, u 72, u 73, u 74, u 75, u 76, u 77, u 78, u 79, u 80, u 81, u 82, u 83, u 84, u 85, u 86, u 87, u 88, u 89, u 90, u 91, u 92]
def zeroS : Array Value := #[.int .u8 0, .string ⟨#[]⟩, .string ⟨#[]⟩, .bool false, .int .i64 0, .bool false, .bool false, .string ⟨#[]⟩]
def fiveS (text scheme : List UInt8) : Array Value := #[.int .u8 5, .string (B text), .string (B scheme), .bool false, .int .i64 0, .bool false, .bool false, .string ⟨#[]⟩]
def fiveW (text scheme : List UInt8) (wild : Bool) : Array Value := #[.int .u8 5, .string (B text), .string (B scheme), .bool wild, .int .i64 0, .bool false, .bool false, .string ⟨#[]⟩]
def hostMid (w0 : World) (s : List UInt8) (rb xb : Nat) (cs : Array Value) (a : Act) (w : World) : Prop :=
  a.tmps = hostArr (.string (B s)) rb xb (fun n => a.tmps.getD n undef) ∧ a.defers = [] ∧
  w.heap[rb]? = some (.cells zeroS 40 (0, 0)) ∧
  w.heap[xb]? = some (.cells cs 40 (0, 0)) ∧ Below w0.heap.size w0 w
def hostMid6 (w0 : World) (s : List UInt8) (rb xb : Nat) (must : Bool) (cs : Array Value) (a : Act) (w : World) : Prop :=
  a.tmps = hostArr6 (.string (B s)) rb xb must (fun n => a.tmps.getD n undef) ∧ a.defers = [] ∧
  w.heap[rb]? = some (.cells zeroS 40 (0, 0)) ∧
  w.heap[xb]? = some (.cells cs 40 (0, 0)) ∧ Below w0.heap.size w0 w
/-- Wild; whether a name must follow; the rest. -/
def hostB : List UInt8 → Bool × Bool × List UInt8
  | [] => (false, true, [])
  | c :: t => if c = 42 then (match t with
      | [] => (true, false, [])
      | d :: u => if d = 46 then (true, true, u) else (true, false, d :: u)) else (false, true, c :: t)
def badName (name : List UInt8) : Bool := name.isEmpty || name.head? == some 46 || Lib.contains name [46, 46]
/-- The host in small letters, the rest. -/
def hostC (r : List UInt8) : Option (List UInt8 × List UInt8) :=
  if badName (r.take (spanN [45, 95, 46] r)) then none else some (low (r.take (spanN [45, 95, 46] r)), r.drop (spanN [45, 95, 46] r))
def hostA (l : List UInt8) : List UInt8 × List UInt8 :=
  if 0 < schN l ∧ [58, 47, 47].isPrefixOf (l.drop (schN l)) = true then (low (l.take (schN l)), l.drop (schN l + 3)) else ([], l)
theorem portF_length (p : Int) (hp ap : Bool) (l : List UInt8) : (portF p hp ap l).1.length ≤ l.length := by
  unfold portF
  split
  · simp
  · split
    · split
      · simp
      · split <;> simp <;> omega
    · simp
abbrev HostR := List UInt8 × List UInt8 × Bool × Int × Bool × Bool × List UInt8 × Bool
def hostD (tx sc : List UInt8) (wild : Bool) (r : List UInt8) : HostR :=
  (tx, sc, wild, (portF 0 false false r).2.2.1, (portF 0 false false r).2.2.2.1, (portF 0 false false r).2.2.2.2, (portF 0 false false r).1,
    (portF 0 false false r).2.1 && ((portF 0 false false r).1.isEmpty || (portF 0 false false r).1.head? == some 47) && !Lib.containsAny (portF 0 false false r).1 [59, 44, 63, 35])
def hostG (sc : List UInt8) (wild must : Bool) (r : List UInt8) : HostR :=
  match (if must then hostC r else some ([], r)) with
  | none => ([], sc, wild, 0, false, false, [], false)
  | some (tx, r') => hostD tx sc wild r'
def hostF (l : List UInt8) : HostR := hostG (hostA l).1 (hostB (hostA l).2).1 (hostB (hostA l).2).2.1 (hostB (hostA l).2).2.2
def hostV (x : HostR) : Value := .tuple #[.agg (srcArr 5 x.1 x.2.1 x.2.2.1 x.2.2.2.1 x.2.2.2.2.1 x.2.2.2.2.2.1 x.2.2.2.2.2.2.1), .bool x.2.2.2.2.2.2.2]
theorem hasP3 (l : List UInt8) (p : List UInt8) (hp : p.length ≤ 100) (hl : l.length ≤ 281474976710656) : strings_HasPrefix.f (B l) (B p) = some (p.isPrefixOf l) := by
  unfold strings_HasPrefix.f stringslite_HasPrefix.f
  by_cases h : p.length ≤ l.length
  · rw [if_pos (by rw [B_size, B_size]; omega), if_pos (by omega), if_pos (by rw [B_size, B_size]; omega)]
    rw [Int.toNat_natCast, B_size, B_extract, B_toList, B_toList]
    simp only [Option.bind_some, List.drop_zero, Nat.sub_zero]
    congr 1
    rw [Bool.eq_iff_iff]
    simp only [beq_iff_eq, List.isPrefixOf_iff_prefix]
    rw [List.prefix_iff_eq_take]
    exact ⟨fun h => h.symm, fun h => h.symm⟩
  · rw [if_neg (by rw [B_size, B_size]; omega)]
    simp only [Option.bind_some]
    congr 1
    symm
    rw [Bool.eq_false_iff]
    intro hh
    exact h (List.isPrefixOf_iff_prefix.1 hh).length_le
set_option maxHeartbeats 8000000 in
set_option maxRecDepth 100000 in
theorem hosted_any (l : List UInt8) (hl : l.length ≤ 1048576) (w : World) (hT : UTabs w) :
    Calls Tryz.prog 42 #[.string (B l)] w fun e w' => e = .returned (hostV (hostF l)) ∧ Below w.heap.size w w' := by
  unfold hostF
  have HT := Lib.hid hT
  have hsc := fun W => csp_scheme.calls (l.length + 1) (B l) ((schN l : Nat) : Int) W (scheme_f l (by omega) _ (by omega))
  have hsz : (B l).size = l.length := B_size l
  have HSL := Lib.hid (schN_le l)
  have hs2 : ∀ W : World, (Instr.slice 9 (.string (B l)) (some (.int .i64 (schN l : Int))) none none).run Tryz.prog W = .ok (.string (B (l.drop (schN l)))) W := fun W => by
    have := HSL.out
    rw [run_slice_string_from_if W _ _ _ _ Tryz.underlying9, if_pos ⟨by omega, by rw [hsz]; omega⟩, Int.toNat_natCast, B_extract_end]
  have hs1 : ∀ W : World, (Instr.slice 9 (.string (B l)) none (some (.int .i64 (schN l : Int))) none).run Tryz.prog W = .ok (.string (B (l.take (schN l)))) W := fun W => by
    have := HSL.out
    rw [run_slice_string_to_if W _ _ _ _ Tryz.underlying9, if_pos ⟨by omega, by rw [hsz]; omega⟩, Int.toNat_natCast, B_extract]; simp
  clear hT
  go_enter Tryz.func42, Tryz.ntmps42
  refine cut3 (hostMid w (hostA l).2 w.heap.size (w.heap.size + 1) (fiveS [] (hostA l).1)) ?_ ?_
  · go_wp2_with fail
    refine (hsc _).mono ?_
    rintro e w1 ⟨rfl, h1⟩
    have HR := Lib.hid (blk_keep (o := .cells zeroS 40 (0, 0)) (blk_keep (w1 := (w.alloc (.cells zeroS 40)).alloc (.cells (fiveS [] []) 40)) (heap_newH w (.cells zeroS 40)) ((Below.refl _ _).alloc (Nat.le_refl _) _)) h1)
    have HX := Lib.hid (blk_keep (o := .cells (fiveS [] []) 40 (0, 0)) (b := w.heap.size + 1) (by have := heap_newH (w.alloc (.cells zeroS 40)) (.cells (fiveS [] []) 40); rw [World.size_alloc] at this; exact this) h1)
    have HB := Lib.hid ((((Below.refl _ w).alloc (Nat.le_refl _) (.cells zeroS 40)).alloc (by simp) (.cells (fiveS [] []) 40)).trans (h1.mono (by simp; omega)))
    clear h1
    by_cases h0 : 0 < schN l
    · have q0 : decide ((0 : Int) < (schN l : Int)) = true := decide_eq_true (by omega)
      have hpre := fun W => strings_HasPrefix.calls (B (l.drop (schN l))) (B [58, 47, 47]) _ W (hasP3 (l.drop (schN l)) [58, 47, 47] (by simp) (by simp; omega))
      have hA : hostA l = if [58, 47, 47].isPrefixOf (l.drop (schN l)) = true then (low (l.take (schN l)), l.drop (schN l + 3)) else ([], l) := by
        unfold hostA; by_cases hq : [58, 47, 47].isPrefixOf (l.drop (schN l)) = true
        · rw [if_pos ⟨h0, hq⟩, if_pos hq]
        · rw [if_neg (fun h => hq h.2), if_neg hq]
      have HPL := Lib.hid (fun (h : [58, 47, 47].isPrefixOf (l.drop (schN l)) = true) => (List.isPrefixOf_iff_prefix.1 h).length_le)
      have hlow := fun W => pct_Lower.calls _ _ W (lower_f (l.take (schN l)) (by simp; omega))
      generalize hn : schN l = n at *
      clear hn
      go_wp2_with fail
      refine (hpre _).mono ?_
      rintro e w2 ⟨rfl, h2⟩
      have HR2 := Lib.hid (blk_keep HR.out h2.below)
      have HX2 := Lib.hid (blk_keep HX.out h2.below)
      have HB2 := Lib.hid (HB.out.trans (h2.below.mono HB.out.size))
      clear HR HX HB h2 hpre
      generalize [58, 47, 47].isPrefixOf (l.drop n) = pp at *
      cases pp with
      | true =>
        rw [if_pos rfl] at hA
        have hpl := HPL.out rfl
        simp only [List.length_cons, List.length_nil, List.length_drop] at hpl
        have hs3 : ∀ W : World, (Instr.slice 9 (.string (B l)) (some (.int .i64 ((n : Int) + 3))) none none).run Tryz.prog W = .ok (.string (B (l.drop (n + 3)))) W := fun W => by
          rw [run_slice_string_from_if W _ _ _ _ Tryz.underlying9, if_pos ⟨by omega, by rw [hsz]; omega⟩, show ((n : Int) + 3).toNat = n + 3 by omega, B_extract_end]
        have hw3 : IntKind.i64.wrap ((n : Int) + 3) = (n : Int) + 3 := wrap_small _ (by omega) (by omega)
        have q5 : (n : Int) + 3 ≤ (l.length : Int) := by omega
        go_wp2_with fail
        have hlow2 : ∀ W : World, Below w2.heap.size w2 W → Calls Tryz.prog 33 #[.string (B (l.take n))] W fun e w3 => e = .returned (.string (B (low (l.take n)))) ∧ w3.cell? ⟨w.heap.size + 1, 2, none⟩ = some (.string ⟨#[]⟩) ∧ w3.frozen? ⟨w.heap.size + 1, 2, none⟩ = false ∧ Hid (Below w2.heap.size w2 w3) := fun W hW => (hlow W).mono (by
          rintro e w3 ⟨rfl, h3⟩
          have hx3 := blk_keep (blk_keep HX2.out hW) h3
          exact ⟨rfl, by rw [Lib.cell_of_heap hx3]; rfl, Lib.frozen_of_heap hx3 2, Lib.hid (hW.trans (h3.mono hW.size))⟩)
        go_region_with (go_at_call 33; refine (hlow2 _ ?_).mono ?_; exact (Below.refl _ w2).drew; rintro e w3 ⟨rfl, c2, f2, h3⟩)
        go_wp2
        rw [hA]
        exact ⟨by rfl, rfl, blk_set_ne (by omega) (blk_keep HR2.out h3.out), setCell_blk (j := 2) (.string (B (low (l.take n)))) (blk_keep HX2.out h3.out), (HB2.out.trans (h3.out.mono HB2.out.size)).setCell (p := ⟨w.heap.size + 1, 2, none⟩) (by simp) _⟩
      | false =>
        rw [if_neg (by simp)] at hA
        go_wp2
        rw [hA]
        exact ⟨by rfl, rfl, HR2.out, HX2.out, HB2.out⟩
    · have q0 : decide ((0 : Int) < (schN l : Int)) = false := decide_eq_false (by omega)
      have hA : hostA l = ([], l) := by unfold hostA; rw [if_neg (fun h => h0 h.1)]
      go_wp2
      rw [hA]
      exact ⟨by rfl, rfl, HR.out, HX.out, HB.out⟩
  · rintro ⟨tm, df⟩ W ⟨h1, h2, h3, h4, h5⟩
    have hml : (hostA l).2.length ≤ 1048576 := by unfold hostA; split <;> simp <;> omega
    generalize (hostA l).2 = m at *
    generalize (hostA l).1 = sc at *
    have HR := Lib.hid h3
    have HX := Lib.hid h4
    have HB := Lib.hid h5
    have hrx : w.heap.size ≠ w.heap.size + 1 := by omega
    clear h3 h4 h5 hsc hs1 hs2 HSL hsz
    simp only at h1 h2
    generalize (fun n => tm.getD n undef) = u at h1
    subst h1
    subst h2
    unfold hostArr
    refine cut3 (hostMid6 w (hostB m).2.2 w.heap.size (w.heap.size + 1) (hostB m).2.1 (fiveW [] sc (hostB m).1)) ?_ ?_
    · by_cases hm : m.head? = some 42
      · obtain ⟨t, rfl⟩ : ∃ t, m = 42 :: t := by
          cases m with
          | nil => simp at hm
          | cons c t => exact ⟨t, by simp at hm; rw [hm]⟩
        have hc : ∀ W1, Below W.heap.size W W1 → Calls Tryz.prog 63 #[.string (B (42 :: t)), .string (B [42])] W1 fun e w3 => e = .returned (.tuple #[.string (B t), .bool true]) ∧ w3.cell? ⟨w.heap.size + 1, 3, none⟩ = some (.bool false) ∧ w3.frozen? ⟨w.heap.size + 1, 3, none⟩ = false ∧ Hid (Below W.heap.size W w3) := fun W1 hW =>
          (strings_CutPrefix.calls _ _ _ _ W1 (cutP_hit 42 t)).mono (by
            rintro e w3 ⟨rfl, h3⟩
            have hx3 := blk_keep (blk_keep HX.out hW) h3.below
            exact ⟨rfl, by rw [Lib.cell_of_heap hx3]; rfl, Lib.frozen_of_heap hx3 3, Lib.hid (hW.trans (h3.below.mono hW.size))⟩)
        go_wp2_with fail
        refine (hc _ (Below.refl _ _)).mono ?_
        rintro e w1 ⟨rfl, c3, f3, h1⟩
        have HX1 := Lib.hid (setCell_blk (j := 3) (.bool true) (blk_keep HX.out h1.out))
        have HR1 := Lib.hid (blk_set_ne (b' := w.heap.size + 1) (j := 3) (v := .bool true) hrx (blk_keep HR.out h1.out))
        have HB1 := Lib.hid ((HB.out.trans (h1.out.mono HB.out.size)).setCell (p := ⟨w.heap.size + 1, 3, none⟩) (by simp) (.bool true))
        clear hc h1
        by_cases ht : t.head? = some 46
        · obtain ⟨v, rfl⟩ : ∃ v, t = 46 :: v := by
            cases t with
            | nil => simp at ht
            | cons c t => exact ⟨t, by simp at ht; rw [ht]⟩
          have hc2 := fun W1 => strings_CutPrefix.calls _ _ _ _ W1 (cutP_hit 46 v)
          go_wp2_with fail
          refine (hc2 _).mono ?_
          rintro e w2 ⟨rfl, h2⟩
          go_wp2
          exact ⟨by rfl, rfl, blk_keep HR1.out h2.below, blk_keep HX1.out h2.below, HB1.out.trans (h2.below.mono HB1.out.size)⟩
        · have hc2 := fun W1 => strings_CutPrefix.calls _ _ _ _ W1 (cutP_miss 46 t ht)
          have hbb : hostB (42 :: t) = (true, false, t) := by
            cases t with
            | nil => rfl
            | cons c t => simp at ht; simp [hostB, ht]
          go_wp2_with fail
          refine (hc2 _).mono ?_
          rintro e w2 ⟨rfl, h2⟩
          go_wp2
          rw [hbb]
          exact ⟨by rfl, rfl, blk_keep HR1.out h2.below, blk_keep HX1.out h2.below, HB1.out.trans (h2.below.mono HB1.out.size)⟩
      · have hbb : hostB m = (false, true, m) := by
          cases m with
          | nil => rfl
          | cons c t => simp at hm; simp [hostB, hm]
        have hc : ∀ W1, Below W.heap.size W W1 → Calls Tryz.prog 63 #[.string (B m), .string (B [42])] W1 fun e w3 => e = .returned (.tuple #[.string (B m), .bool false]) ∧ w3.cell? ⟨w.heap.size + 1, 3, none⟩ = some (.bool false) ∧ w3.frozen? ⟨w.heap.size + 1, 3, none⟩ = false ∧ Hid (Below W.heap.size W w3) := fun W1 hW =>
          (strings_CutPrefix.calls _ _ _ _ W1 (cutP_miss 42 m hm)).mono (by
            rintro e w3 ⟨rfl, h3⟩
            have hx3 := blk_keep (blk_keep HX.out hW) h3.below
            exact ⟨rfl, by rw [Lib.cell_of_heap hx3]; rfl, Lib.frozen_of_heap hx3 3, Lib.hid (hW.trans (h3.below.mono hW.size))⟩)
        go_wp2_with fail
        refine (hc _ (Below.refl _ _)).mono ?_
        rintro e w1 ⟨rfl, c3, f3, h1⟩
        have HX1 := Lib.hid (setCell_blk (j := 3) (.bool false) (blk_keep HX.out h1.out))
        have HR1 := Lib.hid (blk_set_ne (b' := w.heap.size + 1) (j := 3) (v := .bool false) hrx (blk_keep HR.out h1.out))
        have HB1 := Lib.hid ((HB.out.trans (h1.out.mono HB.out.size)).setCell (p := ⟨w.heap.size + 1, 3, none⟩) (by simp) (.bool false))
        clear hc h1
        go_wp2
        rw [hbb]
        exact ⟨by rfl, rfl, HR1.out, HX1.out, HB1.out⟩
    · rintro ⟨tm, df⟩ W ⟨h1, h2, h3, h4, h5⟩
      have hml2 : (hostB m).2.2.length ≤ 1048576 := by
        unfold hostB
        split
        · simp
        · split
          · split
            · simp
            · split <;> simp at hml ⊢ <;> omega
          · exact hml
      generalize (hostB m).2.2 = r at *
      generalize (hostB m).2.1 = must at *
      generalize (hostB m).1 = wild at *
      have HR := Lib.hid h3
      have HX := Lib.hid h4
      have HB := Lib.hid h5
      clear h3 h4 h5
      simp only at h1 h2
      generalize (fun n => tm.getD n undef) = u at h1
      subst h1
      subst h2
      unfold hostArr6
      refine cut1 (fun a w' => ∃ tx r', hostG sc wild must r = hostD tx sc wild r' ∧ r'.length ≤ 1048576 ∧ hostMid w r' w.heap.size (w.heap.size + 1) (fiveW tx sc wild) a w') ?_ ?_
      · cases must with
        | false =>
          go_wp2
          exact ⟨[], r, rfl, hml2, by rfl, rfl, HR.out, HX.out, HB.out⟩
        | true =>
          have hsp := fun W1 => csp_span.calls (r.length + 1) (B r) (B [45, 95, 46]) ((spanN [45, 95, 46] r : Nat) : Int) W1 (span_f [45, 95, 46] r (by omega) _ (by omega))
          have hsz : (B r).size = r.length := B_size r
          have hnl := spanN_le [45, 95, 46] r
          have hC : hostC r = if badName (r.take (spanN [45, 95, 46] r)) then none else some (low (r.take (spanN [45, 95, 46] r)), r.drop (spanN [45, 95, 46] r)) := rfl
          generalize spanN [45, 95, 46] r = n at *
          have hs1 : ∀ W : World, (Instr.slice 9 (.string (B r)) none (some (.int .i64 (n : Int))) none).run Tryz.prog W = .ok (.string (B (r.take n))) W := fun W => by
            rw [run_slice_string_to_if W _ _ _ _ Tryz.underlying9, if_pos ⟨by omega, by rw [hsz]; omega⟩, Int.toNat_natCast, B_extract]; simp
          have hs2 : ∀ W : World, (Instr.slice 9 (.string (B r)) (some (.int .i64 (n : Int))) none none).run Tryz.prog W = .ok (.string (B (r.drop n))) W := fun W => by
            rw [run_slice_string_from_if W _ _ _ _ Tryz.underlying9, if_pos ⟨by omega, by rw [hsz]; omega⟩, Int.toNat_natCast, B_extract_end]
          have hnm : (r.take n).length ≤ 1048576 := by simp; omega
          have hrl : (r.drop n).length ≤ 1048576 := by simp; omega
          have hlow := fun W => pct_Lower.calls _ _ W (lower_f (r.take n) (by omega))
          have hctn := fun W hT => strings_Contains.calls (B (r.take n)) (B [46, 46]) (Lib.contains (r.take n) [46, 46]) W hT (by unfold strings_Contains.f; rw [if_pos (by rw [B_size]; omega), B_data, B_data])
          generalize r.take n = name at *
          go_wp2_with fail
          refine (hsp _).mono ?_
          rintro e w1 ⟨rfl, h1⟩
          have HX1 := Lib.hid (blk_keep HX.out h1)
          have HR1 := Lib.hid (blk_keep HR.out h1)
          have HB1 := Lib.hid (HB.out.trans (h1.mono HB.out.size))
          clear HX HR HB hsp h1
          cases name with
          | nil =>
            have hemp : (B []).toList.isEmpty = true := by rw [B_toList]; rfl
            have hem2 : ((B []).toList == []) = true := by rw [B_toList]; rfl
            have hG : hostG sc wild true r = ([], sc, wild, 0, false, false, [], false) := by simp [hostG, hC, badName]
            have cx0 : w1.cell? ⟨w.heap.size + 1, 0, none⟩ = some (.int .u8 5) := by rw [Lib.cell_of_heap HX1.out]; rfl
            have cr0 : w1.cell? ⟨w.heap.size, 0, none⟩ = some (.int .u8 0) := by rw [Lib.cell_of_heap HR1.out]; rfl
            have fr0 : w1.frozen? ⟨w.heap.size, 0, none⟩ = false := Lib.frozen_of_heap HR1.out 0
            have cx1 : w1.cell? ⟨w.heap.size + 1, 1, none⟩ = some (.string (B [])) := by rw [Lib.cell_of_heap HX1.out]; rfl
            have cr1 : w1.cell? ⟨w.heap.size, 1, none⟩ = some (.string ⟨#[]⟩) := by rw [Lib.cell_of_heap HR1.out]; rfl
            have fr1 : w1.frozen? ⟨w.heap.size, 1, none⟩ = false := Lib.frozen_of_heap HR1.out 1
            have cx2 : w1.cell? ⟨w.heap.size + 1, 2, none⟩ = some (.string (B sc)) := by rw [Lib.cell_of_heap HX1.out]; rfl
            have cr2 : w1.cell? ⟨w.heap.size, 2, none⟩ = some (.string ⟨#[]⟩) := by rw [Lib.cell_of_heap HR1.out]; rfl
            have fr2 : w1.frozen? ⟨w.heap.size, 2, none⟩ = false := Lib.frozen_of_heap HR1.out 2
            have cx3 : w1.cell? ⟨w.heap.size + 1, 3, none⟩ = some (.bool wild) := by rw [Lib.cell_of_heap HX1.out]; rfl
            have cr3 : w1.cell? ⟨w.heap.size, 3, none⟩ = some (.bool false) := by rw [Lib.cell_of_heap HR1.out]; rfl
            have fr3 : w1.frozen? ⟨w.heap.size, 3, none⟩ = false := Lib.frozen_of_heap HR1.out 3
            have cx4 : w1.cell? ⟨w.heap.size + 1, 4, none⟩ = some (.int .i64 0) := by rw [Lib.cell_of_heap HX1.out]; rfl
            have cr4 : w1.cell? ⟨w.heap.size, 4, none⟩ = some (.int .i64 0) := by rw [Lib.cell_of_heap HR1.out]; rfl
            have fr4 : w1.frozen? ⟨w.heap.size, 4, none⟩ = false := Lib.frozen_of_heap HR1.out 4
            have cx5 : w1.cell? ⟨w.heap.size + 1, 5, none⟩ = some (.bool false) := by rw [Lib.cell_of_heap HX1.out]; rfl
            have cr5 : w1.cell? ⟨w.heap.size, 5, none⟩ = some (.bool false) := by rw [Lib.cell_of_heap HR1.out]; rfl
            have fr5 : w1.frozen? ⟨w.heap.size, 5, none⟩ = false := Lib.frozen_of_heap HR1.out 5
            have cx6 : w1.cell? ⟨w.heap.size + 1, 6, none⟩ = some (.bool false) := by rw [Lib.cell_of_heap HX1.out]; rfl
            have cr6 : w1.cell? ⟨w.heap.size, 6, none⟩ = some (.bool false) := by rw [Lib.cell_of_heap HR1.out]; rfl
            have fr6 : w1.frozen? ⟨w.heap.size, 6, none⟩ = false := Lib.frozen_of_heap HR1.out 6
            have cx7 : w1.cell? ⟨w.heap.size + 1, 7, none⟩ = some (.string ⟨#[]⟩) := by rw [Lib.cell_of_heap HX1.out]; rfl
            have cr7 : w1.cell? ⟨w.heap.size, 7, none⟩ = some (.string ⟨#[]⟩) := by rw [Lib.cell_of_heap HR1.out]; rfl
            have fr7 : w1.frozen? ⟨w.heap.size, 7, none⟩ = false := Lib.frozen_of_heap HR1.out 7
            go_wp2
            rw [hG]
            refine bodyPost_ret (results_ct rfl _ _ w.heap.size 40 (srcArr 5 [] sc wild 0 false false []) (0, 0) _ rfl (chain8 HR1.out _ _ _ _ _ _ _ _) Tryz.underlying40 rfl (by kernel_rfl)) rfl ?_
            exact ⟨rfl, chain8_below (Nat.le_refl _) HB1.out _ _ _ _ _ _ _ _⟩
          | cons c t =>
            have hne : (B (c :: t)).toList.isEmpty = false := by rw [B_toList]; rfl
            have hne2 : ((B (c :: t)).toList == []) = false := by rw [B_toList]; rfl
            have hpos : 0 < (B (c :: t)).size := by rw [B_size]; simp
            by_cases hc46 : c = 46
            · subst hc46
              have hb1 : ((((B (46 :: t))[0]'hpos).toNat : Int) == 46) = true := rfl
              have hG : hostG sc wild true r = ([], sc, wild, 0, false, false, [], false) := by simp [hostG, hC, badName]
              have cx0 : w1.cell? ⟨w.heap.size + 1, 0, none⟩ = some (.int .u8 5) := by rw [Lib.cell_of_heap HX1.out]; rfl
              have cr0 : w1.cell? ⟨w.heap.size, 0, none⟩ = some (.int .u8 0) := by rw [Lib.cell_of_heap HR1.out]; rfl
              have fr0 : w1.frozen? ⟨w.heap.size, 0, none⟩ = false := Lib.frozen_of_heap HR1.out 0
              have cx1 : w1.cell? ⟨w.heap.size + 1, 1, none⟩ = some (.string (B [])) := by rw [Lib.cell_of_heap HX1.out]; rfl
              have cr1 : w1.cell? ⟨w.heap.size, 1, none⟩ = some (.string ⟨#[]⟩) := by rw [Lib.cell_of_heap HR1.out]; rfl
              have fr1 : w1.frozen? ⟨w.heap.size, 1, none⟩ = false := Lib.frozen_of_heap HR1.out 1
              have cx2 : w1.cell? ⟨w.heap.size + 1, 2, none⟩ = some (.string (B sc)) := by rw [Lib.cell_of_heap HX1.out]; rfl
              have cr2 : w1.cell? ⟨w.heap.size, 2, none⟩ = some (.string ⟨#[]⟩) := by rw [Lib.cell_of_heap HR1.out]; rfl
              have fr2 : w1.frozen? ⟨w.heap.size, 2, none⟩ = false := Lib.frozen_of_heap HR1.out 2
              have cx3 : w1.cell? ⟨w.heap.size + 1, 3, none⟩ = some (.bool wild) := by rw [Lib.cell_of_heap HX1.out]; rfl
              have cr3 : w1.cell? ⟨w.heap.size, 3, none⟩ = some (.bool false) := by rw [Lib.cell_of_heap HR1.out]; rfl
              have fr3 : w1.frozen? ⟨w.heap.size, 3, none⟩ = false := Lib.frozen_of_heap HR1.out 3
              have cx4 : w1.cell? ⟨w.heap.size + 1, 4, none⟩ = some (.int .i64 0) := by rw [Lib.cell_of_heap HX1.out]; rfl
              have cr4 : w1.cell? ⟨w.heap.size, 4, none⟩ = some (.int .i64 0) := by rw [Lib.cell_of_heap HR1.out]; rfl
              have fr4 : w1.frozen? ⟨w.heap.size, 4, none⟩ = false := Lib.frozen_of_heap HR1.out 4
              have cx5 : w1.cell? ⟨w.heap.size + 1, 5, none⟩ = some (.bool false) := by rw [Lib.cell_of_heap HX1.out]; rfl
              have cr5 : w1.cell? ⟨w.heap.size, 5, none⟩ = some (.bool false) := by rw [Lib.cell_of_heap HR1.out]; rfl
              have fr5 : w1.frozen? ⟨w.heap.size, 5, none⟩ = false := Lib.frozen_of_heap HR1.out 5
              have cx6 : w1.cell? ⟨w.heap.size + 1, 6, none⟩ = some (.bool false) := by rw [Lib.cell_of_heap HX1.out]; rfl
              have cr6 : w1.cell? ⟨w.heap.size, 6, none⟩ = some (.bool false) := by rw [Lib.cell_of_heap HR1.out]; rfl
              have fr6 : w1.frozen? ⟨w.heap.size, 6, none⟩ = false := Lib.frozen_of_heap HR1.out 6
              have cx7 : w1.cell? ⟨w.heap.size + 1, 7, none⟩ = some (.string ⟨#[]⟩) := by rw [Lib.cell_of_heap HX1.out]; rfl
              have cr7 : w1.cell? ⟨w.heap.size, 7, none⟩ = some (.string ⟨#[]⟩) := by rw [Lib.cell_of_heap HR1.out]; rfl
              have fr7 : w1.frozen? ⟨w.heap.size, 7, none⟩ = false := Lib.frozen_of_heap HR1.out 7
              go_wp2
              rw [hG]
              refine bodyPost_ret (results_ct rfl _ _ w.heap.size 40 (srcArr 5 [] sc wild 0 false false []) (0, 0) _ rfl (chain8 HR1.out _ _ _ _ _ _ _ _) Tryz.underlying40 rfl (by kernel_rfl)) rfl ?_
              exact ⟨rfl, chain8_below (Nat.le_refl _) HB1.out _ _ _ _ _ _ _ _⟩
            · have hb1 : ((((B (c :: t))[0]'hpos).toNat : Int) == 46) = false := by
                show ((c.toNat : Int) == 46) = false
                refine beq_eq_false_iff_ne.2 fun h => hc46 ?_
                have : c.toNat = 46 := by omega
                exact UInt8.toNat_inj.1 this
              have hctn1 := hctn w1 (HT.out.below HB1.out)
              go_wp2_with fail
              refine hctn1.mono ?_
              rintro e w2 ⟨rfl, h2⟩
              have HX2 := Lib.hid (blk_keep HX1.out h2)
              have HR2 := Lib.hid (blk_keep HR1.out h2)
              have HB2 := Lib.hid (HB1.out.trans (h2.mono HB1.out.size))
              have hbad : badName (c :: t) = Lib.contains (c :: t) [46, 46] := by simp [badName, hc46]
              clear HX1 HR1 HB1 hctn1 hctn h2
              generalize Lib.contains (c :: t) [46, 46] = ct at *
              cases ct with
              | true =>
                have hG : hostG sc wild true r = ([], sc, wild, 0, false, false, [], false) := by simp [hostG, hC, hbad]
                have cx0 : w2.cell? ⟨w.heap.size + 1, 0, none⟩ = some (.int .u8 5) := by rw [Lib.cell_of_heap HX2.out]; rfl
                have cr0 : w2.cell? ⟨w.heap.size, 0, none⟩ = some (.int .u8 0) := by rw [Lib.cell_of_heap HR2.out]; rfl
                have fr0 : w2.frozen? ⟨w.heap.size, 0, none⟩ = false := Lib.frozen_of_heap HR2.out 0
                have cx1 : w2.cell? ⟨w.heap.size + 1, 1, none⟩ = some (.string (B [])) := by rw [Lib.cell_of_heap HX2.out]; rfl
                have cr1 : w2.cell? ⟨w.heap.size, 1, none⟩ = some (.string ⟨#[]⟩) := by rw [Lib.cell_of_heap HR2.out]; rfl
                have fr1 : w2.frozen? ⟨w.heap.size, 1, none⟩ = false := Lib.frozen_of_heap HR2.out 1
                have cx2 : w2.cell? ⟨w.heap.size + 1, 2, none⟩ = some (.string (B sc)) := by rw [Lib.cell_of_heap HX2.out]; rfl
                have cr2 : w2.cell? ⟨w.heap.size, 2, none⟩ = some (.string ⟨#[]⟩) := by rw [Lib.cell_of_heap HR2.out]; rfl
                have fr2 : w2.frozen? ⟨w.heap.size, 2, none⟩ = false := Lib.frozen_of_heap HR2.out 2
                have cx3 : w2.cell? ⟨w.heap.size + 1, 3, none⟩ = some (.bool wild) := by rw [Lib.cell_of_heap HX2.out]; rfl
                have cr3 : w2.cell? ⟨w.heap.size, 3, none⟩ = some (.bool false) := by rw [Lib.cell_of_heap HR2.out]; rfl
                have fr3 : w2.frozen? ⟨w.heap.size, 3, none⟩ = false := Lib.frozen_of_heap HR2.out 3
                have cx4 : w2.cell? ⟨w.heap.size + 1, 4, none⟩ = some (.int .i64 0) := by rw [Lib.cell_of_heap HX2.out]; rfl
                have cr4 : w2.cell? ⟨w.heap.size, 4, none⟩ = some (.int .i64 0) := by rw [Lib.cell_of_heap HR2.out]; rfl
                have fr4 : w2.frozen? ⟨w.heap.size, 4, none⟩ = false := Lib.frozen_of_heap HR2.out 4
                have cx5 : w2.cell? ⟨w.heap.size + 1, 5, none⟩ = some (.bool false) := by rw [Lib.cell_of_heap HX2.out]; rfl
                have cr5 : w2.cell? ⟨w.heap.size, 5, none⟩ = some (.bool false) := by rw [Lib.cell_of_heap HR2.out]; rfl
                have fr5 : w2.frozen? ⟨w.heap.size, 5, none⟩ = false := Lib.frozen_of_heap HR2.out 5
                have cx6 : w2.cell? ⟨w.heap.size + 1, 6, none⟩ = some (.bool false) := by rw [Lib.cell_of_heap HX2.out]; rfl
                have cr6 : w2.cell? ⟨w.heap.size, 6, none⟩ = some (.bool false) := by rw [Lib.cell_of_heap HR2.out]; rfl
                have fr6 : w2.frozen? ⟨w.heap.size, 6, none⟩ = false := Lib.frozen_of_heap HR2.out 6
                have cx7 : w2.cell? ⟨w.heap.size + 1, 7, none⟩ = some (.string ⟨#[]⟩) := by rw [Lib.cell_of_heap HX2.out]; rfl
                have cr7 : w2.cell? ⟨w.heap.size, 7, none⟩ = some (.string ⟨#[]⟩) := by rw [Lib.cell_of_heap HR2.out]; rfl
                have fr7 : w2.frozen? ⟨w.heap.size, 7, none⟩ = false := Lib.frozen_of_heap HR2.out 7
                go_wp2
                rw [hG]
                refine bodyPost_ret (results_ct rfl _ _ w.heap.size 40 (srcArr 5 [] sc wild 0 false false []) (0, 0) _ rfl (chain8 HR2.out _ _ _ _ _ _ _ _) Tryz.underlying40 rfl (by kernel_rfl)) rfl ?_
                exact ⟨rfl, chain8_below (Nat.le_refl _) HB2.out _ _ _ _ _ _ _ _⟩
              | false =>
                have hG : hostG sc wild true r = hostD (low (c :: t)) sc wild (r.drop n) := by simp [hostG, hC, hbad]
                have hlow2 : ∀ W : World, Below w2.heap.size w2 W → Calls Tryz.prog 33 #[.string (B (c :: t))] W fun e w3 => e = .returned (.string (B (low (c :: t)))) ∧ w3.cell? ⟨w.heap.size + 1, 1, none⟩ = some (.string (B [])) ∧ w3.frozen? ⟨w.heap.size + 1, 1, none⟩ = false ∧ Hid (Below w2.heap.size w2 w3) := fun W hW => (hlow W).mono (by
                  rintro e w3 ⟨rfl, h3⟩
                  have hx3 := blk_keep (blk_keep HX2.out hW) h3
                  exact ⟨rfl, by rw [Lib.cell_of_heap hx3]; rfl, Lib.frozen_of_heap hx3 1, Lib.hid (hW.trans (h3.mono hW.size))⟩)
                go_wp2_with fail
                go_region_with (go_at_call 33; refine (hlow2 _ ?_).mono ?_; exact (Below.refl _ w2).drew; rintro e w3 ⟨rfl, c2, f2, h3⟩)
                go_wp2
                exact ⟨_, _, hG, hrl, by rfl, rfl, blk_set_ne (by omega) (blk_keep HR2.out h3.out), setCell_blk (j := 1) (.string (B (low (c :: t)))) (blk_keep HX2.out h3.out), (HB2.out.trans (h3.out.mono HB2.out.size)).setCell (p := ⟨w.heap.size + 1, 1, none⟩) (by simp) _⟩
      · rintro ⟨tm, df⟩ W ⟨tx, r', hG, hrl, h1, h2, h3, h4, h5⟩
        have hpo := port_calls r' (by omega) (w.heap.size + 1) (w.heap.size + 1) (.int .u8 5) (.string (B tx)) (.string (B sc)) (.bool wild) (.string ⟨#[]⟩) 0 false false W (HT.out.below h5) (Nat.le_refl _) h4
        rw [hG]
        have hD : hostD tx sc wild r' = (tx, sc, wild, (portF 0 false false r').2.2.1, (portF 0 false false r').2.2.2.1, (portF 0 false false r').2.2.2.2, (portF 0 false false r').1,
          (portF 0 false false r').2.1 && ((portF 0 false false r').1.isEmpty || (portF 0 false false r').1.head? == some 47) && !Lib.containsAny (portF 0 false false r').1 [59, 44, 63, 35]) := rfl
        have hlen : (portF 0 false false r').1.length ≤ 1048576 := Nat.le_trans (portF_length _ _ _ _) hrl
        generalize portF 0 false false r' = pf at hpo hD hlen
        obtain ⟨rest, ok, p, hp, ap⟩ := pf
        simp only at hpo hD hlen h1 h2
        have HR := Lib.hid h3
        have HB := Lib.hid h5
        clear hG h3 h4 h5
        generalize (fun n => tm.getD n undef) = u at h1
        subst h1
        subst h2
        unfold hostArr
        go_wp2_with fail
        refine hpo.mono ?_
        rintro e w1 ⟨rfl, hx1, hb1⟩
        have HX1 := Lib.hid hx1
        have HR1 := Lib.hid ((hb1.block w.heap.size (by omega)).trans HR.out)
        have HB1 := Lib.hid (HB.out.trans (hb1.mono (by omega)))
        have c7 : w1.cell? ⟨w.heap.size + 1, 7, none⟩ = some (.string ⟨#[]⟩) := by rw [Lib.cell_of_heap hx1]; rfl
        have f7 : w1.frozen? ⟨w.heap.size + 1, 7, none⟩ = false := Lib.frozen_of_heap hx1 7
        clear hpo hx1 hb1
        go_wp2_with fail
        obtain ⟨w2, hw2⟩ : ∃ w2, w2 = w1.setCell ⟨w.heap.size + 1, 7, none⟩ (.string (B rest)) := ⟨_, rfl⟩
        have hx2 : w2.heap[w.heap.size + 1]? = some (.cells (srcArr 5 tx sc wild p hp ap rest) 40 (0, 0)) := by rw [hw2]; exact (setCell_blk (j := 7) (.string (B rest)) HX1.out).trans (by simp [srcArr])
        have hr2 : w2.heap[w.heap.size]? = some (.cells zeroS 40 (0, 0)) := by rw [hw2]; exact blk_set_ne (by omega) HR1.out
        have hb2 : Below w.heap.size w w2 := by rw [hw2]; exact HB1.out.setCell (p := ⟨w.heap.size + 1, 7, none⟩) (by simp) _
        rw [← hw2]
        clear hw2 HX1 HR1 HB1 c7 f7
        have HX2 := Lib.hid hx2
        have HR2 := Lib.hid hr2
        have HB2 := Lib.hid hb2
        clear hx2 hr2 hb2
        have cx0 : w2.cell? ⟨w.heap.size + 1, 0, none⟩ = some (.int .u8 5) := by rw [Lib.cell_of_heap HX2.out]; rfl
        have cr0 : w2.cell? ⟨w.heap.size, 0, none⟩ = some (.int .u8 0) := by rw [Lib.cell_of_heap HR2.out]; rfl
        have fr0 : w2.frozen? ⟨w.heap.size, 0, none⟩ = false := Lib.frozen_of_heap HR2.out 0
        have cx1 : w2.cell? ⟨w.heap.size + 1, 1, none⟩ = some (.string (B tx)) := by rw [Lib.cell_of_heap HX2.out]; rfl
        have cr1 : w2.cell? ⟨w.heap.size, 1, none⟩ = some (.string ⟨#[]⟩) := by rw [Lib.cell_of_heap HR2.out]; rfl
        have fr1 : w2.frozen? ⟨w.heap.size, 1, none⟩ = false := Lib.frozen_of_heap HR2.out 1
        have cx2 : w2.cell? ⟨w.heap.size + 1, 2, none⟩ = some (.string (B sc)) := by rw [Lib.cell_of_heap HX2.out]; rfl
        have cr2 : w2.cell? ⟨w.heap.size, 2, none⟩ = some (.string ⟨#[]⟩) := by rw [Lib.cell_of_heap HR2.out]; rfl
        have fr2 : w2.frozen? ⟨w.heap.size, 2, none⟩ = false := Lib.frozen_of_heap HR2.out 2
        have cx3 : w2.cell? ⟨w.heap.size + 1, 3, none⟩ = some (.bool wild) := by rw [Lib.cell_of_heap HX2.out]; rfl
        have cr3 : w2.cell? ⟨w.heap.size, 3, none⟩ = some (.bool false) := by rw [Lib.cell_of_heap HR2.out]; rfl
        have fr3 : w2.frozen? ⟨w.heap.size, 3, none⟩ = false := Lib.frozen_of_heap HR2.out 3
        have cx4 : w2.cell? ⟨w.heap.size + 1, 4, none⟩ = some (.int .i64 p) := by rw [Lib.cell_of_heap HX2.out]; rfl
        have cr4 : w2.cell? ⟨w.heap.size, 4, none⟩ = some (.int .i64 0) := by rw [Lib.cell_of_heap HR2.out]; rfl
        have fr4 : w2.frozen? ⟨w.heap.size, 4, none⟩ = false := Lib.frozen_of_heap HR2.out 4
        have cx5 : w2.cell? ⟨w.heap.size + 1, 5, none⟩ = some (.bool hp) := by rw [Lib.cell_of_heap HX2.out]; rfl
        have cr5 : w2.cell? ⟨w.heap.size, 5, none⟩ = some (.bool false) := by rw [Lib.cell_of_heap HR2.out]; rfl
        have fr5 : w2.frozen? ⟨w.heap.size, 5, none⟩ = false := Lib.frozen_of_heap HR2.out 5
        have cx6 : w2.cell? ⟨w.heap.size + 1, 6, none⟩ = some (.bool ap) := by rw [Lib.cell_of_heap HX2.out]; rfl
        have cr6 : w2.cell? ⟨w.heap.size, 6, none⟩ = some (.bool false) := by rw [Lib.cell_of_heap HR2.out]; rfl
        have fr6 : w2.frozen? ⟨w.heap.size, 6, none⟩ = false := Lib.frozen_of_heap HR2.out 6
        have cx7 : w2.cell? ⟨w.heap.size + 1, 7, none⟩ = some (.string (B rest)) := by rw [Lib.cell_of_heap HX2.out]; rfl
        have cr7 : w2.cell? ⟨w.heap.size, 7, none⟩ = some (.string ⟨#[]⟩) := by rw [Lib.cell_of_heap HR2.out]; rfl
        have fr7 : w2.frozen? ⟨w.heap.size, 7, none⟩ = false := Lib.frozen_of_heap HR2.out 7
        have dcx0 : w2.drew.cell? ⟨w.heap.size + 1, 0, none⟩ = some (.int .u8 5) := by rw [Lib.cell_of_heap (show w2.drew.heap[_]? = _ from HX2.out)]; rfl
        have dcr0 : w2.drew.cell? ⟨w.heap.size, 0, none⟩ = some (.int .u8 0) := by rw [Lib.cell_of_heap (show w2.drew.heap[_]? = _ from HR2.out)]; rfl
        have dfr0 : w2.drew.frozen? ⟨w.heap.size, 0, none⟩ = false := Lib.frozen_of_heap (show w2.drew.heap[_]? = _ from HR2.out) 0
        have dcx1 : w2.drew.cell? ⟨w.heap.size + 1, 1, none⟩ = some (.string (B tx)) := by rw [Lib.cell_of_heap (show w2.drew.heap[_]? = _ from HX2.out)]; rfl
        have dcr1 : w2.drew.cell? ⟨w.heap.size, 1, none⟩ = some (.string ⟨#[]⟩) := by rw [Lib.cell_of_heap (show w2.drew.heap[_]? = _ from HR2.out)]; rfl
        have dfr1 : w2.drew.frozen? ⟨w.heap.size, 1, none⟩ = false := Lib.frozen_of_heap (show w2.drew.heap[_]? = _ from HR2.out) 1
        have dcx2 : w2.drew.cell? ⟨w.heap.size + 1, 2, none⟩ = some (.string (B sc)) := by rw [Lib.cell_of_heap (show w2.drew.heap[_]? = _ from HX2.out)]; rfl
        have dcr2 : w2.drew.cell? ⟨w.heap.size, 2, none⟩ = some (.string ⟨#[]⟩) := by rw [Lib.cell_of_heap (show w2.drew.heap[_]? = _ from HR2.out)]; rfl
        have dfr2 : w2.drew.frozen? ⟨w.heap.size, 2, none⟩ = false := Lib.frozen_of_heap (show w2.drew.heap[_]? = _ from HR2.out) 2
        have dcx3 : w2.drew.cell? ⟨w.heap.size + 1, 3, none⟩ = some (.bool wild) := by rw [Lib.cell_of_heap (show w2.drew.heap[_]? = _ from HX2.out)]; rfl
        have dcr3 : w2.drew.cell? ⟨w.heap.size, 3, none⟩ = some (.bool false) := by rw [Lib.cell_of_heap (show w2.drew.heap[_]? = _ from HR2.out)]; rfl
        have dfr3 : w2.drew.frozen? ⟨w.heap.size, 3, none⟩ = false := Lib.frozen_of_heap (show w2.drew.heap[_]? = _ from HR2.out) 3
        have dcx4 : w2.drew.cell? ⟨w.heap.size + 1, 4, none⟩ = some (.int .i64 p) := by rw [Lib.cell_of_heap (show w2.drew.heap[_]? = _ from HX2.out)]; rfl
        have dcr4 : w2.drew.cell? ⟨w.heap.size, 4, none⟩ = some (.int .i64 0) := by rw [Lib.cell_of_heap (show w2.drew.heap[_]? = _ from HR2.out)]; rfl
        have dfr4 : w2.drew.frozen? ⟨w.heap.size, 4, none⟩ = false := Lib.frozen_of_heap (show w2.drew.heap[_]? = _ from HR2.out) 4
        have dcx5 : w2.drew.cell? ⟨w.heap.size + 1, 5, none⟩ = some (.bool hp) := by rw [Lib.cell_of_heap (show w2.drew.heap[_]? = _ from HX2.out)]; rfl
        have dcr5 : w2.drew.cell? ⟨w.heap.size, 5, none⟩ = some (.bool false) := by rw [Lib.cell_of_heap (show w2.drew.heap[_]? = _ from HR2.out)]; rfl
        have dfr5 : w2.drew.frozen? ⟨w.heap.size, 5, none⟩ = false := Lib.frozen_of_heap (show w2.drew.heap[_]? = _ from HR2.out) 5
        have dcx6 : w2.drew.cell? ⟨w.heap.size + 1, 6, none⟩ = some (.bool ap) := by rw [Lib.cell_of_heap (show w2.drew.heap[_]? = _ from HX2.out)]; rfl
        have dcr6 : w2.drew.cell? ⟨w.heap.size, 6, none⟩ = some (.bool false) := by rw [Lib.cell_of_heap (show w2.drew.heap[_]? = _ from HR2.out)]; rfl
        have dfr6 : w2.drew.frozen? ⟨w.heap.size, 6, none⟩ = false := Lib.frozen_of_heap (show w2.drew.heap[_]? = _ from HR2.out) 6
        have dcx7 : w2.drew.cell? ⟨w.heap.size + 1, 7, none⟩ = some (.string (B rest)) := by rw [Lib.cell_of_heap (show w2.drew.heap[_]? = _ from HX2.out)]; rfl
        have dcr7 : w2.drew.cell? ⟨w.heap.size, 7, none⟩ = some (.string ⟨#[]⟩) := by rw [Lib.cell_of_heap (show w2.drew.heap[_]? = _ from HR2.out)]; rfl
        have dfr7 : w2.drew.frozen? ⟨w.heap.size, 7, none⟩ = false := Lib.frozen_of_heap (show w2.drew.heap[_]? = _ from HR2.out) 7
        have hca2 : ∀ W1 : World, Below w2.heap.size w2 W1 → Calls Tryz.prog 61 #[.string (B rest), .string (B [59, 44, 63, 35])] W1 fun e w3 => e = .returned (.bool (Lib.containsAny rest [59, 44, 63, 35])) ∧ Hid (Below w2.heap.size w2 w3) ∧ w3.cell? ⟨w.heap.size + 1, 0, none⟩ = some (.int .u8 5) ∧ w3.cell? ⟨w.heap.size + 1, 1, none⟩ = some (.string (B tx)) ∧ w3.cell? ⟨w.heap.size + 1, 2, none⟩ = some (.string (B sc)) ∧ w3.cell? ⟨w.heap.size + 1, 3, none⟩ = some (.bool wild) ∧ w3.cell? ⟨w.heap.size + 1, 4, none⟩ = some (.int .i64 p) ∧ w3.cell? ⟨w.heap.size + 1, 5, none⟩ = some (.bool hp) ∧ w3.cell? ⟨w.heap.size + 1, 6, none⟩ = some (.bool ap) ∧ w3.cell? ⟨w.heap.size + 1, 7, none⟩ = some (.string (B rest)) ∧ w3.cell? ⟨w.heap.size, 0, none⟩ = some (.int .u8 0) ∧ w3.cell? ⟨w.heap.size, 1, none⟩ = some (.string ⟨#[]⟩) ∧ w3.cell? ⟨w.heap.size, 2, none⟩ = some (.string ⟨#[]⟩) ∧ w3.cell? ⟨w.heap.size, 3, none⟩ = some (.bool false) ∧ w3.cell? ⟨w.heap.size, 4, none⟩ = some (.int .i64 0) ∧ w3.cell? ⟨w.heap.size, 5, none⟩ = some (.bool false) ∧ w3.cell? ⟨w.heap.size, 6, none⟩ = some (.bool false) ∧ w3.cell? ⟨w.heap.size, 7, none⟩ = some (.string ⟨#[]⟩) ∧ w3.frozen? ⟨w.heap.size, 0, none⟩ = false ∧ w3.frozen? ⟨w.heap.size, 1, none⟩ = false ∧ w3.frozen? ⟨w.heap.size, 2, none⟩ = false ∧ w3.frozen? ⟨w.heap.size, 3, none⟩ = false ∧ w3.frozen? ⟨w.heap.size, 4, none⟩ = false ∧ w3.frozen? ⟨w.heap.size, 5, none⟩ = false ∧ w3.frozen? ⟨w.heap.size, 6, none⟩ = false ∧ w3.frozen? ⟨w.heap.size, 7, none⟩ = false := fun W1 hW =>
          (strings_ContainsAny.calls (B rest) (B [59, 44, 63, 35]) _ W1 (by unfold strings_ContainsAny.f; rw [if_pos ⟨by decide, by decide, by decide, by rw [B_size]; omega⟩, B_data, B_data])).mono (by
            rintro e w3 ⟨rfl, h3⟩
            have hx3 := blk_keep (blk_keep HX2.out hW) h3
            have hr3 := blk_keep (blk_keep HR2.out hW) h3
            exact ⟨rfl, Lib.hid (hW.trans (h3.mono hW.size)), by rw [Lib.cell_of_heap hx3]; rfl, by rw [Lib.cell_of_heap hx3]; rfl, by rw [Lib.cell_of_heap hx3]; rfl, by rw [Lib.cell_of_heap hx3]; rfl, by rw [Lib.cell_of_heap hx3]; rfl, by rw [Lib.cell_of_heap hx3]; rfl, by rw [Lib.cell_of_heap hx3]; rfl, by rw [Lib.cell_of_heap hx3]; rfl, by rw [Lib.cell_of_heap hr3]; rfl, by rw [Lib.cell_of_heap hr3]; rfl, by rw [Lib.cell_of_heap hr3]; rfl, by rw [Lib.cell_of_heap hr3]; rfl, by rw [Lib.cell_of_heap hr3]; rfl, by rw [Lib.cell_of_heap hr3]; rfl, by rw [Lib.cell_of_heap hr3]; rfl, by rw [Lib.cell_of_heap hr3]; rfl, Lib.frozen_of_heap hr3 0, Lib.frozen_of_heap hr3 1, Lib.frozen_of_heap hr3 2, Lib.frozen_of_heap hr3 3, Lib.frozen_of_heap hr3 4, Lib.frozen_of_heap hr3 5, Lib.frozen_of_heap hr3 6, Lib.frozen_of_heap hr3 7⟩)
        cases ok with
        | false =>
          go_region
          go_wp2
          generalize hV : World.setCell _ _ _ = V
          have hVr : V.heap[w.heap.size]? = some (.cells (srcArr 5 tx sc wild p hp ap rest) 40 (0, 0)) := by rw [← hV]; exact chain8 HR2.out _ _ _ _ _ _ _ _
          have hVb : Below w.heap.size w V := by rw [← hV]; exact chain8_below (Nat.le_refl _) HB2.out _ _ _ _ _ _ _ _
          clear hV
          refine bodyPost_ret (results_ct rfl _ _ w.heap.size 40 (srcArr 5 tx sc wild p hp ap rest) (0, 0) _ rfl (show V.drew.heap[_]? = _ from hVr) Tryz.underlying40 rfl (by kernel_rfl)) rfl ?_
          exact ⟨by rw [hD, Bool.false_and, Bool.false_and]; rfl, hVb.drew⟩
        | true =>
          cases rest with
          | nil =>
            rw [show B [] = (⟨#[]⟩ : ByteArray) from rfl] at hca2 cx7 dcx7 ⊢
            first | go_region_with (go_at_call 61; refine (hca2 _ ?_).mono ?_; exact (Below.refl _ w2).drew; rintro e w3 ⟨rfl, h3, dx0, dx1, dx2, dx3, dx4, dx5, dx6, dx7, dr0, dr1, dr2, dr3, dr4, dr5, dr6, dr7, gr0, gr1, gr2, gr3, gr4, gr5, gr6, gr7⟩) | fail
            all_goals
              go_wp2
              generalize hV : World.setCell _ _ _ = V
              have hVr : V.heap[w.heap.size]? = some (.cells (srcArr 5 tx sc wild p hp ap []) 40 (0, 0)) := by rw [← hV]; exact chain8 (blk_keep HR2.out h3.out) _ _ _ _ _ _ _ _
              have hVb : Below w.heap.size w V := by rw [← hV]; exact chain8_below (Nat.le_refl _) (HB2.out.trans (h3.out.mono HB2.out.size)) _ _ _ _ _ _ _ _
              clear hV
              refine bodyPost_ret (results_ct rfl _ _ w.heap.size 40 (srcArr 5 tx sc wild p hp ap []) (0, 0) _ rfl (show V.heap[_]? = _ from hVr) Tryz.underlying40 rfl (by kernel_rfl)) rfl ?_
              exact ⟨by rw [hD]; rfl, hVb⟩
          | cons c t =>
            have hne : (B (c :: t)).toList.isEmpty = false := by rw [B_toList]; rfl
            have hne2 : ((B (c :: t)).toList == []) = false := by rw [B_toList]; rfl
            have hne3 : ¬ (B (c :: t)).toList = [] := by rw [B_toList]; simp
            have hpos : 0 < (B (c :: t)).size := by rw [B_size]; simp
            by_cases hc47 : c = 47
            · subst hc47
              have hb1 : ((((B (47 :: t))[0]'hpos).toNat : Int) == 47) = true := rfl
              first | go_region_with (go_at_call 61; refine (hca2 _ ?_).mono ?_; exact (Below.refl _ w2).drew; rintro e w3 ⟨rfl, h3, dx0, dx1, dx2, dx3, dx4, dx5, dx6, dx7, dr0, dr1, dr2, dr3, dr4, dr5, dr6, dr7, gr0, gr1, gr2, gr3, gr4, gr5, gr6, gr7⟩) | fail
              all_goals
                go_wp2
                generalize hV : World.setCell _ _ _ = V
                have hVr : V.heap[w.heap.size]? = some (.cells (srcArr 5 tx sc wild p hp ap (47 :: t)) 40 (0, 0)) := by rw [← hV]; exact chain8 (blk_keep HR2.out h3.out) _ _ _ _ _ _ _ _
                have hVb : Below w.heap.size w V := by rw [← hV]; exact chain8_below (Nat.le_refl _) (HB2.out.trans (h3.out.mono HB2.out.size)) _ _ _ _ _ _ _ _
                clear hV
                refine bodyPost_ret (results_ct rfl _ _ w.heap.size 40 (srcArr 5 tx sc wild p hp ap (47 :: t)) (0, 0) _ rfl (show V.heap[_]? = _ from hVr) Tryz.underlying40 rfl (by kernel_rfl)) rfl ?_
                exact ⟨by rw [hD]; rfl, hVb⟩
            · have hb1 : ((((B (c :: t))[0]'hpos).toNat : Int) == 47) = false := by
                show ((c.toNat : Int) == 47) = false
                refine beq_eq_false_iff_ne.2 fun h => hc47 ?_
                have : c.toNat = 47 := by omega
                exact UInt8.toNat_inj.1 this
              have hcb : (true && ((c :: t).isEmpty || (c :: t).head? == some 47) && !Lib.containsAny (c :: t) [59, 44, 63, 35]) = false := by simp [hc47]
              rw [hcb] at hD
              go_region
              all_goals
                go_wp2
                generalize hV : World.setCell _ _ _ = V
                have hVr : V.heap[w.heap.size]? = some (.cells (srcArr 5 tx sc wild p hp ap (c :: t)) 40 (0, 0)) := by rw [← hV]; exact chain8 HR2.out _ _ _ _ _ _ _ _
                have hVb : Below w.heap.size w V := by rw [← hV]; exact chain8_below (Nat.le_refl _) HB2.out _ _ _ _ _ _ _ _
                clear hV
                refine bodyPost_ret (results_ct rfl _ _ w.heap.size 40 (srcArr 5 tx sc wild p hp ap (c :: t)) (0, 0) _ rfl (show V.drew.heap[_]? = _ from hVr) Tryz.underlying40 rfl (by kernel_rfl)) rfl ?_
                exact ⟨by rw [hD]; rfl, hVb.drew⟩
end Go.Proofs.YtnndgmbflkdhkaaGreatDoor.Q
