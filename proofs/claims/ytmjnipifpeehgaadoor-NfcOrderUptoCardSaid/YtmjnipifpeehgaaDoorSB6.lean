/- slices.SortStableFunc of runes in a stretch of a block. -/
/- nfc.Ordered's stretches, plain: from a place on, up to the next rune of class nought. -/
/- What the stable order keeps, plain: an ordered list; those of one key. -/
/- What a row's listed tables of unicode/utf8 give the contracts; and a world that holds them. -/
import Derived.Test.YtmjnipifpeehgaaDoorSRsG
import Derived.Test.YtmjnipifpeehgaaDoorSB5
import Derived.Test.YtmjnipifpeehgaaDoorRows
import Derived.Test.YtmjnipifpeehgaaDoorSQbase
import Derived.PinnedBridge
import Derived.Lib.LaidU8
import Derived.LaidLaws
import Derived.ProofKit
section
set_option linter.unusedSimpArgs false
set_option linter.unusedVariables false
namespace Go.Proofs.YtmjnipifpeehgaaDoor.Q.I
open Go.RowKit Go.Proofs.YtmjnipifpeehgaaDoorW.PrintWords Go.Proofs.YtmjnipifpeehgaaDoorW.PrintLast Go.Proofs.YtmjnipifpeehgaaDoorW.PrintMore Go.Sort Go.Proofs.YtmjnipifpeehgaaDoor.St Go.Proofs.YtmjnipifpeehgaaDoor.Q
set_option maxHeartbeats 4000000 in
theorem sortStable_calls (base g o cap : Nat) (qz : Array Value) (hg : base ≤ g) (fq : Nat) (lb : Array Value) (c : Int → Int → Int) (eg : ∀ args w, (callFunc fq args).run Tryd.prog w = .ok (.enter fq args) w) (d0 : Array Int) (w : World) (hcmp : CmpF base w fq lb c)
    (hbw : base ≤ w.heap.size) (hR : RowA g o qz w d0) (hn : d0.size ≤ 1099511627776) :
    Calls Tryd.prog 22 #[.slice (some ⟨g, o, none⟩) d0.size cap, .func (.func fq) #[] lb] w fun e w' => e = .returned (.tuple #[]) ∧ RowA g o qz w' (stable (ltF c) d0.size d0) ∧ Below base w w' := by
  have hst := stable_calls base g o cap qz hg fq lb c eg d0 w hcmp hbw hR hn
  obtain ⟨N, hN⟩ : ∃ N, N = d0.size := ⟨_, rfl⟩
  rw [← hN] at hst hn ⊢
  clear hcmp hR hN
  go_enter Tryd.func22, Tryd.ntmps22
  go_wp2_with fail
  refine hst.mono ?_
  rintro e w1 ⟨rfl, hr, hb⟩
  have HR := Lib.hid hr
  have HB := Lib.hid hb
  clear hst hr hb
  go_wp2
  go_end0
  exact ⟨rfl, HR.out, HB.out⟩
end Go.Proofs.YtmjnipifpeehgaaDoor.Q.I
end
section
set_option linter.unusedSimpArgs false
set_option linter.unusedVariables false
set_option linter.unusedSectionVars false
namespace Go.Proofs.YtmjnipifpeehgaaDoor.St
variable {α : Type} [Inhabited α] (cls : α → Nat)
theorem segGo_span (x : α) (hx : cls x = 0) (rest : List α) : ∀ (pre cur : List α), (∀ y ∈ pre, cls y ≠ 0) → segGo cls cur (pre ++ x :: rest) = stab (leq (cLt cls)) (cur ++ pre) ++ x :: segGo cls [] rest
  | [], cur, _ => by
    rw [List.nil_append, List.append_nil, segGo, if_pos hx]
  | y :: p, cur, h => by
    rw [List.cons_append, segGo, if_neg (h y List.mem_cons_self), segGo_span x hx rest p (cur ++ [y]) (fun z hz => h z (List.mem_cons_of_mem _ hz)), List.append_assoc]
    rfl
theorem segGo_end : ∀ (pre cur : List α), (∀ y ∈ pre, cls y ≠ 0) → segGo cls cur pre = stab (leq (cLt cls)) (cur ++ pre)
  | [], cur, _ => by rw [List.append_nil, segGo]
  | y :: p, cur, h => by
    rw [segGo, if_neg (h y List.mem_cons_self), segGo_end p (cur ++ [y]) (fun z hz => h z (List.mem_cons_of_mem _ hz)), List.append_assoc]
    rfl
end Go.Proofs.YtmjnipifpeehgaaDoor.St
end
section
set_option linter.unusedSimpArgs false
set_option linter.unusedVariables false
namespace Go.Proofs.YtmjnipifpeehgaaDoor.St
section
variable {α : Type} {lt : α → α → Bool}
/-- one that is behind none goes ahead -/
theorem mrg_first (x : α) : ∀ l : List α, (∀ y ∈ l, leq lt x y = true) → mrg (leq lt) [x] l = x :: l
  | [], _ => mrg_nil_right _ _
  | y :: l, h => by rw [mrg_cons, if_pos (h y List.mem_cons_self), mrg_nil_left]
/-- what is ordered stays -/
theorem stab_of_sorted : ∀ l : List α, Sd lt l → stab (leq lt) l = l
  | [], _ => rfl
  | x :: l, h => by
    have h' := List.pairwise_cons.1 h
    show mrg (leq lt) [x] (stab (leq lt) l) = _
    rw [stab_of_sorted l h'.2, mrg_first x l h'.1]
/-- of those that pass a test that tells no two alike apart: the order stays -/
theorem mrg_filter (p : α → Bool) (x : α) (hx : ∀ y, p x = true → p y = true → leq lt x y = true) : ∀ l : List α, (mrg (leq lt) [x] l).filter p = [x].filter p ++ l.filter p
  | [] => by rw [mrg_nil_right]; simp
  | y :: l => by
    rw [mrg_cons]
    by_cases h : leq lt x y = true
    · rw [if_pos h, mrg_nil_left, ← List.filter_append]; rfl
    · rw [if_neg h]
      have ih := mrg_filter p x hx l
      cases hp : p x with
      | true =>
        have hy : p y = false := by
          cases hy : p y with
          | false => rfl
          | true => exact absurd (hx y hp hy) h
        rw [List.filter_cons_of_neg (by simp [hy]), ih, List.filter_cons_of_neg (l := l) (by simp [hy])]
      | false =>
        cases hy : p y with
        | true => rw [List.filter_cons_of_pos hy, ih, List.filter_cons_of_pos (l := l) hy]; simp [hp]
        | false => rw [List.filter_cons_of_neg (by simp [hy]), ih, List.filter_cons_of_neg (l := l) (by simp [hy])]
theorem stab_filter (p : α → Bool) (hp : ∀ x y, p x = true → p y = true → leq lt x y = true) : ∀ l : List α, (stab (leq lt) l).filter p = l.filter p
  | [] => rfl
  | x :: l => by
    show (mrg (leq lt) [x] (stab (leq lt) l)).filter p = _
    rw [mrg_filter p x (fun y h1 h2 => hp x y h1 h2), stab_filter p hp l, ← List.filter_append]; rfl
end
end Go.Proofs.YtmjnipifpeehgaaDoor.St
end
section
set_option linter.unusedVariables false
namespace Go.Proofs.YtmjnipifpeehgaaDoor.Q
open Go.Shelf Go.Lib
set_option maxRecDepth 100000
theorem und_t0 : Tryd.prog.underlying 131 = some (.array 256 5) := by kernel_rfl
theorem und_t1 : Tryd.prog.underlying 134 = some (.array 16 133) := by kernel_rfl
theorem und_u8 : Tryd.prog.underlying 5 = some (.int .u8) := by kernel_rfl
theorem und_ac : ∃ f0 f1 : Field, Tryd.prog.underlying 133 = some (.struct #[f0, f1]) ∧ f0.type = 5 ∧ f0.offset = 0 ∧ f1.type = 5 ∧ f1.offset = 1 :=
  ⟨{ name := "lo", type := 5, offset := 0, embedded := false, tag := "", pkgPath := "unicode/utf8", byteOffset := 0 }, { name := "hi", type := 5, offset := 1, embedded := false, tag := "", pkgPath := "unicode/utf8", byteOffset := 1 }, by kernel_rfl, rfl, rfl, rfl, rfl⟩
theorem siz_u8 : Tryd.prog.cellsOf 5 = 1 := by kernel_rfl
theorem siz_ac : Tryd.prog.cellsOf 133 = 2 := by kernel_rfl
theorem first_tab {w : World} (h : VarReads Tryd.prog w "unicode/utf8.first" firstData) (c : Nat) (hc : c < 256) : w.cell? ⟨0, c, none⟩ = (firstTab.map (Value.int .u8))[c]? := by
  obtain ⟨g, t, cs, fuel, p, hg, hty, hvar, hd⟩ := h
  obtain rfl := Option.some.inj ((show Tryd.prog.globalNamed "unicode/utf8.first" = some 0 from by kernel_rfl).symm.trans hg)
  obtain rfl := Option.some.inj ((show (Tryd.prog.globals[0]?).map (·.type) = some 131 from by kernel_rfl).symm.trans hty)
  rw [World.var?_cell hg hvar c, ← Array.getElem?_toList, cells_of_tab und_t0 und_u8 siz_u8 (by kernel_rfl) hd]
theorem accept_tab {w : World} (h : VarReads Tryd.prog w "unicode/utf8.acceptRanges" acceptData) (i : Nat) (hi : i < 16) : w.cell? ⟨1, 2 * i, none⟩ = some (.int .u8 (accLo i)) ∧ w.cell? ⟨1, 2 * i + 1, none⟩ = some (.int .u8 (accHi i)) := by
  obtain ⟨g, t, cs, fuel, p, hg, hty, hvar, hd⟩ := h
  obtain rfl := Option.some.inj ((show Tryd.prog.globalNamed "unicode/utf8.acceptRanges" = some 1 from by kernel_rfl).symm.trans hg)
  obtain rfl := Option.some.inj ((show (Tryd.prog.globals[1]?).map (·.type) = some 134 from by kernel_rfl).symm.trans hty)
  obtain ⟨fuel', d, q, hdi, he⟩ := array_elem und_t1 hd i hi
  have hdd : d = .agg ([(accLo i : Int), (accHi i : Int)].map fun z => .lit (.int .u8 z)) := by
    (simp only [List.getElem?_map, List.getElem?_range hi, Option.map_some, Option.some.injEq] at hdi); (exact hdi.symm)
  subst hdd
  rw [siz_ac] at he
  obtain ⟨f0, f1, hu, p0, p1, p2, p3⟩ := und_ac
  have hcs : (cs.toList.drop (i * 2)).take 2 = [Value.int .u8 (accLo i), Value.int .u8 (accHi i)] := ints_of_struct hu (fun j f hj => by
    match j, hj with
    | 0, hj => obtain rfl : f0 = f := by simpa using hj
               exact ⟨by rw [p0]; exact und_u8, p1, by rw [p0]; exact siz_u8⟩
    | 1, hj => obtain rfl : f1 = f := by simpa using hj
               exact ⟨by rw [p2]; exact und_u8, p3, by rw [p2]; exact siz_u8⟩
    | j + 2, hj => simp at hj) (by rw [siz_ac]; rfl) he
  have h0 := congrArg (fun l : List Value => l[0]?) hcs
  have h1 := congrArg (fun l : List Value => l[1]?) hcs
  simp only [List.getElem?_take, List.getElem?_drop] at h0 h1
  rw [World.var?_cell hg hvar (2 * i), World.var?_cell hg hvar (2 * i + 1), ← Array.getElem?_toList, ← Array.getElem?_toList]
  refine ⟨?_, ?_⟩
  · simpa [Nat.mul_comm] using h0
  · simpa [Nat.mul_comm] using h1
theorem utabs_of_laid {W : World} (h : laidMetH Tryd.prog [("unicode/utf8.acceptRanges", Rows.laid_unicode_utf8_acceptRanges), ("unicode/utf8.first", Rows.laid_unicode_utf8_first)] W) : UTabs W := by
  have h' : laidMet Tryd.prog [("unicode/utf8.acceptRanges", Rows.laid_unicode_utf8_acceptRanges), ("unicode/utf8.first", Rows.laid_unicode_utf8_first)] W := h
  have hf : VarReads Tryd.prog W "unicode/utf8.first" firstData := Pinned.utf8First_eq ▸ laidMet.reads h' (n := "unicode/utf8.first") (d := Rows.laid_unicode_utf8_first) (by simp)
  have ha : VarReads Tryd.prog W "unicode/utf8.acceptRanges" acceptData := by
    (have := laidMet.reads h' (n := "unicode/utf8.acceptRanges") (d := Rows.laid_unicode_utf8_acceptRanges) (by simp)); (rw [show (acceptData : DataW Unit) = Rows.laid_unicode_utf8_acceptRanges by kernel_rfl]); (exact this)
  refine ⟨fun c hc => ?_, fun i hi => accept_tab ha i hi⟩
  rw [first_tab hf c hc]
  simp [firstTab, hc]
/-- The settled world, the two tables as their initialisers lay them. -/
noncomputable def laidWorld (os : Os) : World :=
  { World.holding Tryd.prog os ⟨#[], #[], []⟩ with heap := (((World.holding Tryd.prog os ⟨#[], #[], []⟩).heap.modify 0 fun
      | .cells _ t frozen => .cells (firstTab.map fun z => Value.int .u8 z).toArray t frozen
      | o => o).modify 1 fun
      | .cells _ t frozen => .cells (((List.range 16).map fun i => [Value.int .u8 (accLo i), Value.int .u8 (accHi i)]).flatten).toArray t frozen
      | o => o) }
end Go.Proofs.YtmjnipifpeehgaaDoor.Q
end
