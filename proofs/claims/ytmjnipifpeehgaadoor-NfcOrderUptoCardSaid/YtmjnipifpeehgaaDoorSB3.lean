/- A row of runes in a block of its own, and a stretch of it as the sort sees it. -/
/- nfc.Ordered: a stretch of a row, sorted by the classes. -/
import Derived.Test.YtmjnipifpeehgaaDoorSNCmp
import Derived.Test.YtmjnipifpeehgaaDoorSB5
import Derived.Test.YtmjnipifpeehgaaDoorSB6
section
set_option linter.unusedSimpArgs false
set_option linter.unusedVariables false
namespace Go.Proofs.YtmjnipifpeehgaaDoor.Q.I
open Go.RowKit Go.Proofs.YtmjnipifpeehgaaDoorW.PrintWords Go.Proofs.YtmjnipifpeehgaaDoorW.PrintLast Go.Proofs.YtmjnipifpeehgaaDoorW.PrintMore Go.Sort Go.Proofs.YtmjnipifpeehgaaDoor.St Go.Proofs.YtmjnipifpeehgaaDoor.Q
/-- block g holds the runes m, in the room of cap -/
def RowI (g cap : Nat) (W : World) (m : List Int) : Prop :=
  ∃ cur, W.heap[g]? = some (.cells cur 21 (0, 0)) ∧ cur.size = cap ∧ m.length ≤ cap ∧ cap ≤ maxLen ∧ ∀ (j : Nat) x, m[j]? = some x → cur[j]? = some (.int .i32 x)
theorem R_rowI {W : World} {base : Nat} {ok : Nat → Prop} {v : Value} {m : List Int} (h : Kd.R (Kd.int .i32) 21 W base ok v m) : (m = [] ∧ v = .slice none 0 0) ∨ ∃ g cap, v = .slice (some ⟨g, 0, none⟩) m.length cap ∧ base ≤ g ∧ RowI g cap W m := by
  obtain ⟨_, inner, ⟨hl, ho⟩, hr⟩ := h
  rcases ho with ⟨rfl, h0⟩ | ⟨g, cap, cur, rfl, h1, h2, h3, h4, h5, h6⟩
  · exact .inl ⟨List.length_eq_zero_iff.1 h0, rfl⟩
  · refine .inr ⟨g, cap, rfl, h1, cur, h2, by rw [h5]; exact Nat.mul_one _, h3, h4, fun j x hj => ?_⟩
    have h7 := hr.2 j x hj
    have h8 : (inner.drop (j * 1)).take 1 = [.int .i32 x] := h7
    have hjl := (List.getElem?_eq_some_iff.1 hj).1
    have e0 := congrArg (fun l => l[0]?) h8
    simp only [List.getElem?_take, List.getElem?_drop] at e0
    simp at e0
    rw [← h6] at e0
    rw [List.getElem?_take, if_pos (by show j < m.length * 1; omega), Array.getElem?_toList] at e0
    exact e0
theorem RowI.to_R {g cap : Nat} {W : World} {m : List Int} {base : Nat} (h : RowI g cap W m) (hg : base ≤ g) : Kd.R (Kd.int .i32) 21 W base (fun _ => True) (.slice (some ⟨g, 0, none⟩) m.length cap) m := by
  obtain ⟨cur, h1, h2, h3, h4, h5⟩ := h
  have hflat : cur.toList.take (m.length * 1) = m.map (Value.int .i32) := by
    have hcl : cur.toList.length = cur.size := Array.length_toList
    apply List.ext_getElem?
    intro i
    by_cases hi : i < m.length
    · have hx := List.getElem?_eq_getElem hi
      rw [List.getElem?_take, if_pos (by omega), Array.getElem?_toList, h5 i _ hx, List.getElem?_map, hx]
      rfl
    · rw [List.getElem?_take, if_neg (by omega), List.getElem?_map, List.getElem?_eq_none (by omega)]
      rfl
  have hml : (m.map (Value.int .i32)).length = m.length * 1 := by rw [List.length_map, Nat.mul_one]
  refine ⟨fun _ _ => trivial, m.map (Value.int .i32), ⟨hml, .inr ⟨g, cap, cur, rfl, hg, h1, h3, h4, by rw [h2]; exact (Nat.mul_one _).symm, hflat⟩⟩, ⟨hml, fun j x hj => ?_⟩⟩
  show ((m.map (Value.int .i32)).drop (j * 1)).take 1 = [.int .i32 x]
  have hjl := (List.getElem?_eq_some_iff.1 hj).1
  rw [Nat.mul_one, List.drop_eq_getElem_cons (by rw [List.length_map]; exact hjl)]
  have : m[j] = x := by rw [List.getElem?_eq_getElem hjl] at hj; exact Option.some.inj hj
  simp [this]
/-- the stretch from o to e, as the sort sees it -/
theorem RowI.to_A {g cap : Nat} {W : World} {m : List Int} (h : RowI g cap W m) (o n : Nat) (hn : o + n ≤ m.length) : ∃ qz, RowA g o qz W ((m.drop o).take n).toArray ∧ ∀ W' (d : Array Int), d.size = n → RowA g o qz W' d → RowI g cap W' (m.take o ++ d.toList ++ m.drop (o + n)) := by
  obtain ⟨cur, h1, h2, h3, h4, h5⟩ := h
  have hsz : ((m.drop o).take n).toArray.size = n := by rw [List.size_toArray, List.length_take, List.length_drop]; omega
  refine ⟨cur, ⟨⟨cur, h1, rfl, by rw [hsz]; omega, fun j x hj => ?_, fun j _ => rfl⟩, trivial⟩, fun W' d hd hR => ?_⟩
  · have hj' : ((m.drop o).take n)[j]? = some x := hj
    rw [List.getElem?_take] at hj'
    split at hj'
    · rw [List.getElem?_drop] at hj'
      exact h5 (o + j) x hj'
    · cases hj'
  · obtain ⟨cu, k1, k2, k3, k4, k5⟩ := hR.row
    have hdl : d.toList.length = n := by rw [Array.length_toList]; exact hd
    refine ⟨cu, k1, by omega, ?_, h4, fun j x hj => ?_⟩
    · rw [List.length_append, List.length_append, List.length_take, List.length_drop, hdl]; omega
    · have htl : (m.take o).length = o := by rw [List.length_take]; omega
      by_cases a1 : j < o
      · rw [List.append_assoc, List.getElem?_append_left (by omega), List.getElem?_take, if_pos a1] at hj
        rw [k5 j (.inl a1)]
        exact h5 j x hj
      · by_cases a2 : j < o + n
        · rw [List.append_assoc, List.getElem?_append_right (by omega), htl, List.getElem?_append_left (by omega)] at hj
          have := k4 (j - o) x hj
          rw [show o + (j - o) = j from by omega] at this
          exact this
        · rw [List.getElem?_append_right (by rw [List.length_append, htl, hdl]; omega), List.length_append, htl, hdl, List.getElem?_drop] at hj
          rw [k5 j (.inr (by omega))]
          rw [show o + n + (j - (o + n)) = j from by omega] at hj
          exact h5 j x hj
end Go.Proofs.YtmjnipifpeehgaaDoor.Q.I
end
section
set_option linter.unusedSimpArgs false
set_option linter.unusedVariables false
namespace Go.Proofs.YtmjnipifpeehgaaDoor.Q.I
open Go.RowKit Go.Proofs.YtmjnipifpeehgaaDoorW.PrintWords Go.Proofs.YtmjnipifpeehgaaDoorW.PrintLast Go.Proofs.YtmjnipifpeehgaaDoorW.PrintMore Go.Sort Go.Proofs.YtmjnipifpeehgaaDoor.St Go.Proofs.YtmjnipifpeehgaaDoor.Q
theorem RowI.below {g cap : Nat} {W W' : World} {m : List Int} (h : RowI g cap W m) (hb : Below W.heap.size W W') : RowI g cap W' m := by
  obtain ⟨cur, h1, h2⟩ := h
  exact ⟨cur, (hb.block g (Array.getElem?_eq_some_iff.1 h1).1).trans h1, h2⟩
theorem RowI.cell {g cap : Nat} {W : World} {m : List Int} (h : RowI g cap W m) {j : Nat} {x : Int} (hj : m[j]? = some x) : W.cell? ⟨g, j, none⟩ = some (.int .i32 x) := by
  obtain ⟨cur, h1, _, _, _, h5⟩ := h
  rw [Lib.cell_of_heap h1]
  exact h5 j x hj
def clsN (l : List S43) (x : Int) : Nat := (clsOf l x).toNat
def ordL (l : List S43) (m : List Int) : List Int := segGo (clsN l) [] m
theorem mrg_length (le : Int → Int → Bool) : ∀ u v : List Int, (mrg le u v).length = u.length + v.length
  | [], v => by rw [mrg_nil_left]; simp
  | x :: s, [] => by rw [mrg_nil_right]; simp
  | x :: s, y :: t => by
    rw [mrg_cons]
    by_cases h : le x y
    · rw [if_pos h, List.length_cons, mrg_length le s (y :: t)]; simp; omega
    · rw [if_neg h, List.length_cons, mrg_length le (x :: s) t]; simp; omega
termination_by u v => u.length + v.length
theorem stab_length (le : Int → Int → Bool) : ∀ l : List Int, (stab le l).length = l.length
  | [] => rfl
  | x :: t => by
    show (mrg le [x] (stab le t)).length = _
    rw [mrg_length, stab_length le t]; simp; omega
theorem span_run (W : World) (g n cap fr te : Nat) (h1 : fr ≤ te) (h2 : te ≤ n) (h3 : n ≤ cap) (h4 : fr < cap) :
    (Instr.slice 29 (.slice (some ⟨g, 0, none⟩) n cap) (some (.int .i64 (fr : Int))) (some (.int .i64 (te : Int))) none).run Tryd.prog W = .ok (.slice (some ⟨g, fr, none⟩) (te - fr) (cap - fr)) W := by
  rw [run_slice_lh W _ _ _ _ (by kernel_rfl) .i64 .i64 _ _ (by omega) (by omega) (by omega), show (sizeOf (Tryd.prog.elem 29)).run Tryd.prog W = .ok 1 W from by kernel_rfl]
  have hne : ¬ cap = fr := by omega
  by_cases h0 : fr = 0
  · subst h0
    simp [Result.andThen, sliced, Addr.add, hne]
  · simp [Result.andThen, sliced, Addr.add, hne, h0]
theorem ltF_cls (l : List S43) (hpos : ∀ x, 0 ≤ clsOf l x) : ltF (fun x y => cmpI (clsOf l x) (clsOf l y)) = cLt (clsN l) := by
  funext x y
  have hx := hpos x
  have hy := hpos y
  show decide (cmpI (clsOf l x) (clsOf l y) < 0) = decide ((clsOf l x).toNat < (clsOf l y).toNat)
  unfold cmpI
  by_cases h : clsOf l x < clsOf l y
  · rw [if_pos h, decide_eq_true (show (clsOf l x).toNat < (clsOf l y).toNat by omega)]
    decide
  · rw [if_neg h, decide_eq_false (show ¬ (clsOf l x).toNat < (clsOf l y).toNat by omega)]
    by_cases h2 : clsOf l y < clsOf l x
    · rw [if_pos h2]; decide
    · rw [if_neg h2]; decide
theorem sort_span (g cap tb base : Nat) (A : Option Addr) (c : Nat) (l : List S43) (s0 s2 s3 s4 : Value) (m : List Int) (fr te : Nat) (w0 w : World)
    (hb0 : Below w0.heap.size w0 w) (hbase : w0.heap.size ≤ base) (hbw : base ≤ w.heap.size) (htb : tb < base) (hgb : base ≤ g) (hn : l.length ≤ 1073741824) (hm : m.length ≤ 1073741824) (hpos : ∀ x, 0 ≤ clsOf l x) (hC : Kd.C k43 w0 A l.length l)
    (g0 : w.cell? ⟨tb, 0, none⟩ = some s0) (g1 : w.cell? ⟨tb, 1, none⟩ = some (.slice A l.length c)) (g2 : w.cell? ⟨tb, 2, none⟩ = some s2) (g3 : w.cell? ⟨tb, 3, none⟩ = some s3) (g4 : w.cell? ⟨tb, 4, none⟩ = some s4)
    (h1 : fr ≤ te) (h2 : te ≤ m.length) (hR : RowI g cap w m) :
    Calls Tryd.prog 22 #[.slice (some ⟨g, fr, none⟩) (te - fr) (cap - fr), .func (.func 23) #[] #[.pointer (some ⟨tb, 0, none⟩)]] w fun e w' => e = .returned (.tuple #[]) ∧ RowI g cap w' (m.take fr ++ stab (leq (cLt (clsN l))) ((m.drop fr).take (te - fr)) ++ m.drop te) ∧ Below base w w' := by
  obtain ⟨qz, hA, hback⟩ := hR.to_A fr (te - fr) (by omega)
  have hsz : ((m.drop fr).take (te - fr)).toArray.size = te - fr := by rw [List.size_toArray, List.length_take, List.length_drop]; omega
  have hcmp := ordCmp w0 w base tb A c l s0 s2 s3 s4 hb0 hbase hbw htb hn hC g0 g1 g2 g3 g4
  have eg : ∀ args w, (callFunc 23 args).run Tryd.prog w = .ok (.enter 23 args) w := enters_of Tryd.func23 (by kernel_rfl) rfl
  have := sortStable_calls base g fr (cap - fr) qz hgb 23 _ _ eg _ w hcmp hbw hA (by rw [hsz]; omega)
  rw [hsz] at this
  refine this.mono ?_
  rintro e w' ⟨rfl, hr, hb⟩
  refine ⟨rfl, ?_, hb⟩
  have hst := stable_list (lt := ltF (fun x y => cmpI (clsOf l x) (clsOf l y))) (by rw [ltF_cls l hpos]; exact c_tot (clsN l)) (by rw [ltF_cls l hpos]; exact c_tr (clsN l)) ((m.drop fr).take (te - fr)).toArray
  rw [hsz] at hst
  have hdz : (stable (ltF (fun x y => cmpI (clsOf l x) (clsOf l y))) (te - fr) ((m.drop fr).take (te - fr)).toArray).size = te - fr := by
    rw [← Array.length_toList, hst, stab_length, Array.length_toList]
    exact hsz
  have := hback w' _ hdz hr
  rw [hst, ltF_cls l hpos, show fr + (te - fr) = te from by omega] at this
  exact this
end Go.Proofs.YtmjnipifpeehgaaDoor.Q.I
end
