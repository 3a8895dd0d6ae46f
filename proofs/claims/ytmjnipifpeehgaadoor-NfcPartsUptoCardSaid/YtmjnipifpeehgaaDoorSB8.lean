/- A row of runes in a block of its own, and a stretch of it as the sort sees it. -/
/- What a row's listed tables of unicode/utf8 give the contracts; and a world that holds them. -/
import Derived.Test.YtmjnipifpeehgaaDoorSB4
import Derived.Test.YtmjnipifpeehgaaDoorSB2
import Derived.Test.YtmjnipifpeehgaaDoorSB3
import Derived.Test.YtmjnipifpeehgaaDoorRows
import Derived.Test.YtmjnipifpeehgaaDoorSQbase
import Derived.PinnedBridge
import Derived.Lib.LaidU8
import Derived.LaidLaws
import Derived.ProofKit
section
set_option linter.unusedSimpArgs false
set_option linter.unusedVariables false
namespace Go.Proofs.YtmjnipifpeehgaaDoor.Q.I
open Go.RowKit Go.Proofs.YtmjnipifpeehgaaDoorW.PrintWords Go.Proofs.YtmjnipifpeehgaaDoorW.PrintLast Go.Proofs.YtmjnipifpeehgaaDoorW.PrintMore Go.Sort Go.Proofs.YtmjnipifpeehgaaDoor.St Go.Proofs.YtmjnipifpeehgaaDoor.Q
/-- block g holds the runes m, in the room of cap -/
def RowI (g cap : Nat) (W : World) (m : List Int) : Prop :=
  ∃ cur, W.heap[g]? = some (.cells cur 21 (0, 0)) ∧ cur.size = cap ∧ m.length ≤ cap ∧ cap ≤ maxLen ∧ ∀ (j : Nat) x, m[j]? = some x → cur[j]? = some (.int .i32 x)
theorem R_rowI {W : World} {base : Nat} {ok : Nat → Prop} {v : Value} {m : List Int} (h : Kd.R (Kd.int .i32) 21 W base ok v m) : (m = [] ∧ v = .slice none 0 0) ∨ ∃ g cap, v = .slice (some ⟨g, 0, none⟩) m.length cap ∧ base ≤ g ∧ RowI g cap W m := by
  obtain ⟨_, inner, ⟨hl, ho⟩, hr⟩ := h
  rcases ho with ⟨rfl, h0⟩ | ⟨g, cap, cur, rfl, h1, h2, h3, h4, h5, h6⟩
  · exact .inl ⟨List.length_eq_zero_iff.1 h0, rfl⟩
  · refine .inr ⟨g, cap, rfl, h1, cur, h2, by rw [h5]; exact Nat.mul_one _, h3, h4, fun j x hj => ?_⟩
    have h7 := hr.2 j x hj
    have h8 : (inner.drop (j * 1)).take 1 = [.int .i32 x] := h7
    have hjl := (List.getElem?_eq_some_iff.1 hj).1
    have e0 := congrArg (fun l => l[0]?) h8
    simp only [List.getElem?_take, List.getElem?_drop] at e0
    simp at e0
    rw [← h6] at e0
    rw [List.getElem?_take, if_pos (by show j < m.length * 1; omega), Array.getElem?_toList] at e0
    exact e0
theorem RowI.to_R {g cap : Nat} {W : World} {m : List Int} {base : Nat} (h : RowI g cap W m) (hg : base ≤ g) : Kd.R (Kd.int .i32) 21 W base (fun _ => True) (.slice (some ⟨g, 0, none⟩) m.length cap) m := by
  obtain ⟨cur, h1, h2, h3, h4, h5⟩ := h
  have hflat : cur.toList.take (m.length * 1) = m.map (Value.int .i32) := by
    have hcl : cur.toList.length = cur.size := Array.length_toList
    apply List.ext_getElem?
    intro i
    by_cases hi : i < m.length
    · have hx := List.getElem?_eq_getElem hi
      rw [List.getElem?_take, if_pos (by omega), Array.getElem?_toList, h5 i _ hx, List.getElem?_map, hx]
      rfl
    · rw [List.getElem?_take, if_neg (by omega), List.getElem?_map, List.getElem?_eq_none (by omega)]
      rfl
  have hml : (m.map (Value.int .i32)).length = m.length * 1 := by rw [List.length_map, Nat.mul_one]
  refine ⟨fun _ _ => trivial, m.map (Value.int .i32), ⟨hml, .inr ⟨g, cap, cur, rfl, hg, h1, h3, h4, by rw [h2]; exact (Nat.mul_one _).symm, hflat⟩⟩, ⟨hml, fun j x hj => ?_⟩⟩
  show ((m.map (Value.int .i32)).drop (j * 1)).take 1 = [.int .i32 x]
  have hjl := (List.getElem?_eq_some_iff.1 hj).1
  rw [Nat.mul_one, List.drop_eq_getElem_cons (by rw [List.length_map]; exact hjl)]
  have : m[j] = x := by rw [List.getElem?_eq_getElem hjl] at hj; exact Option.some.inj hj
  simp [this]
/-- the stretch from o to e, as the sort sees it -/
theorem RowI.to_A {g cap : Nat} {W : World} {m : List Int} (h : RowI g cap W m) (o n : Nat) (hn : o + n ≤ m.length) : ∃ qz, RowA g o qz W ((m.drop o).take n).toArray ∧ ∀ W' (d : Array Int), d.size = n → RowA g o qz W' d → RowI g cap W' (m.take o ++ d.toList ++ m.drop (o + n)) := by
  obtain ⟨cur, h1, h2, h3, h4, h5⟩ := h
  have hsz : ((m.drop o).take n).toArray.size = n := by rw [List.size_toArray, List.length_take, List.length_drop]; omega
  refine ⟨cur, ⟨⟨cur, h1, rfl, by rw [hsz]; omega, fun j x hj => ?_, fun j _ => rfl⟩, trivial⟩, fun W' d hd hR => ?_⟩
  · have hj' : ((m.drop o).take n)[j]? = some x := hj
    rw [List.getElem?_take] at hj'
    split at hj'
    · rw [List.getElem?_drop] at hj'
      exact h5 (o + j) x hj'
    · cases hj'
  · obtain ⟨cu, k1, k2, k3, k4, k5⟩ := hR.row
    have hdl : d.toList.length = n := by rw [Array.length_toList]; exact hd
    refine ⟨cu, k1, by omega, ?_, h4, fun j x hj => ?_⟩
    · rw [List.length_append, List.length_append, List.length_take, List.length_drop, hdl]; omega
    · have htl : (m.take o).length = o := by rw [List.length_take]; omega
      by_cases a1 : j < o
      · rw [List.append_assoc, List.getElem?_append_left (by omega), List.getElem?_take, if_pos a1] at hj
        rw [k5 j (.inl a1)]
        exact h5 j x hj
      · by_cases a2 : j < o + n
        · rw [List.append_assoc, List.getElem?_append_right (by omega), htl, List.getElem?_append_left (by omega)] at hj
          have := k4 (j - o) x hj
          rw [show o + (j - o) = j from by omega] at this
          exact this
        · rw [List.getElem?_append_right (by rw [List.length_append, htl, hdl]; omega), List.length_append, htl, hdl, List.getElem?_drop] at hj
          rw [k5 j (.inr (by omega))]
          rw [show o + n + (j - (o + n)) = j from by omega] at hj
          exact h5 j x hj
end Go.Proofs.YtmjnipifpeehgaaDoor.Q.I
end
section
set_option linter.unusedVariables false
namespace Go.Proofs.YtmjnipifpeehgaaDoor.Q
open Go.Shelf Go.Lib
set_option maxRecDepth 100000
theorem und_t0 : Tryd.prog.underlying 131 = some (.array 256 5) := by kernel_rfl
theorem und_t1 : Tryd.prog.underlying 134 = some (.array 16 133) := by kernel_rfl
theorem und_u8 : Tryd.prog.underlying 5 = some (.int .u8) := by kernel_rfl
theorem und_ac : ∃ f0 f1 : Field, Tryd.prog.underlying 133 = some (.struct #[f0, f1]) ∧ f0.type = 5 ∧ f0.offset = 0 ∧ f1.type = 5 ∧ f1.offset = 1 :=
  ⟨{ name := "lo", type := 5, offset := 0, embedded := false, tag := "", pkgPath := "unicode/utf8", byteOffset := 0 }, { name := "hi", type := 5, offset := 1, embedded := false, tag := "", pkgPath := "unicode/utf8", byteOffset := 1 }, by kernel_rfl, rfl, rfl, rfl, rfl⟩
theorem siz_u8 : Tryd.prog.cellsOf 5 = 1 := by kernel_rfl
theorem siz_ac : Tryd.prog.cellsOf 133 = 2 := by kernel_rfl
theorem first_tab {w : World} (h : VarReads Tryd.prog w "unicode/utf8.first" firstData) (c : Nat) (hc : c < 256) : w.cell? ⟨0, c, none⟩ = (firstTab.map (Value.int .u8))[c]? := by
  obtain ⟨g, t, cs, fuel, p, hg, hty, hvar, hd⟩ := h
  obtain rfl := Option.some.inj ((show Tryd.prog.globalNamed "unicode/utf8.first" = some 0 from by kernel_rfl).symm.trans hg)
  obtain rfl := Option.some.inj ((show (Tryd.prog.globals[0]?).map (·.type) = some 131 from by kernel_rfl).symm.trans hty)
  rw [World.var?_cell hg hvar c, ← Array.getElem?_toList, cells_of_tab und_t0 und_u8 siz_u8 (by kernel_rfl) hd]
theorem accept_tab {w : World} (h : VarReads Tryd.prog w "unicode/utf8.acceptRanges" acceptData) (i : Nat) (hi : i < 16) : w.cell? ⟨1, 2 * i, none⟩ = some (.int .u8 (accLo i)) ∧ w.cell? ⟨1, 2 * i + 1, none⟩ = some (.int .u8 (accHi i)) := by
  obtain ⟨g, t, cs, fuel, p, hg, hty, hvar, hd⟩ := h
  obtain rfl := Option.some.inj ((show Tryd.prog.globalNamed "unicode/utf8.acceptRanges" = some 1 from by kernel_rfl).symm.trans hg)
  obtain rfl := Option.some.inj ((show (Tryd.prog.globals[1]?).map (·.type) = some 134 from by kernel_rfl).symm.trans hty)
  obtain ⟨fuel', d, q, hdi, he⟩ := array_elem und_t1 hd i hi
  have hdd : d = .agg ([(accLo i : Int), (accHi i : Int)].map fun z => .lit (.int .u8 z)) := by
    simp only [List.getElem?_map, List.getElem?_range hi, Option.map_some, Option.some.injEq] at hdi
    exact hdi.symm
  subst hdd
  rw [siz_ac] at he
  obtain ⟨f0, f1, hu, p0, p1, p2, p3⟩ := und_ac
  have hcs : (cs.toList.drop (i * 2)).take 2 = [Value.int .u8 (accLo i), Value.int .u8 (accHi i)] := ints_of_struct hu (fun j f hj => by
    match j, hj with
    | 0, hj => obtain rfl : f0 = f := by simpa using hj
               exact ⟨by rw [p0]; exact und_u8, p1, by rw [p0]; exact siz_u8⟩
    | 1, hj => obtain rfl : f1 = f := by simpa using hj
               exact ⟨by rw [p2]; exact und_u8, p3, by rw [p2]; exact siz_u8⟩
    | j + 2, hj => simp at hj) (by rw [siz_ac]; rfl) he
  have h0 := congrArg (fun l : List Value => l[0]?) hcs
  have h1 := congrArg (fun l : List Value => l[1]?) hcs
  simp only [List.getElem?_take, List.getElem?_drop] at h0 h1
  rw [World.var?_cell hg hvar (2 * i), World.var?_cell hg hvar (2 * i + 1), ← Array.getElem?_toList, ← Array.getElem?_toList]
  refine ⟨?_, ?_⟩
  · simpa [Nat.mul_comm] using h0
  · simpa [Nat.mul_comm] using h1
theorem utabs_of_laid {W : World} (h : laidMetH Tryd.prog [("unicode/utf8.acceptRanges", Rows.laid_unicode_utf8_acceptRanges), ("unicode/utf8.first", Rows.laid_unicode_utf8_first)] W) : UTabs W := by
  have h' : laidMet Tryd.prog [("unicode/utf8.acceptRanges", Rows.laid_unicode_utf8_acceptRanges), ("unicode/utf8.first", Rows.laid_unicode_utf8_first)] W := h
  have hf : VarReads Tryd.prog W "unicode/utf8.first" firstData := Pinned.utf8First_eq ▸ laidMet.reads h' (n := "unicode/utf8.first") (d := Rows.laid_unicode_utf8_first) (by simp)
  have ha : VarReads Tryd.prog W "unicode/utf8.acceptRanges" acceptData := by
    have := laidMet.reads h' (n := "unicode/utf8.acceptRanges") (d := Rows.laid_unicode_utf8_acceptRanges) (by simp)
    rw [show (acceptData : DataW Unit) = Rows.laid_unicode_utf8_acceptRanges by kernel_rfl]
    exact this
  refine ⟨fun c hc => ?_, fun i hi => accept_tab ha i hi⟩
  rw [first_tab hf c hc]
  simp [firstTab, hc]
/-- The settled world, the two tables as their initialisers lay them. -/
noncomputable def laidWorld (os : Os) : World :=
  { World.holding Tryd.prog os ⟨#[], #[], []⟩ with heap := (((World.holding Tryd.prog os ⟨#[], #[], []⟩).heap.modify 0 fun
      | .cells _ t frozen => .cells (firstTab.map fun z => Value.int .u8 z).toArray t frozen
      | o => o).modify 1 fun
      | .cells _ t frozen => .cells (((List.range 16).map fun i => [Value.int .u8 (accLo i), Value.int .u8 (accHi i)]).flatten).toArray t frozen
      | o => o) }
end Go.Proofs.YtmjnipifpeehgaaDoor.Q
end
