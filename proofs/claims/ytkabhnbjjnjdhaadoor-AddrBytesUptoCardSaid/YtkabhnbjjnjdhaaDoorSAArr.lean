/- Arrays of eight numbers: how one is copied to the result and returned. -/
import Derived.Test.YtkabhnbjjnjdhaaDoorSQbase
set_option linter.unusedVariables false
set_option linter.unusedSimpArgs false
namespace Go.Proofs.YtkabhnbjjnjdhaaDoor.Q
open Go.RowKit Go.Proofs.YtkabhnbjjnjdhaaDoorW.PrintWords Go.Proofs.YtkabhnbjjnjdhaaDoorW.PrintLast Go.Proofs.YtkabhnbjjnjdhaaDoorW.PrintMore
set_option maxRecDepth 100000 in
set_option maxHeartbeats 4000000 in
theorem acopy {fn : Func} {T : Array Value} {n p q : Nat} {pos1 pos2 pos3 : String} {A1 A2 A3 : Array Edge} {x r : Nat} {w wc : World} {Q : Exit → Act → World → Prop} {c a0 a1 a2 a3 a4 a5 a6 a7 : Int} {b0 b1 b2 b3 b4 b5 b6 b7 : Value}
    (hfn : fn.results = #[ResultVar.cell 2 27, ResultVar.tmp 3])
    (hx : wc.heap[x]? = some (.cells #[.int .u16 a0, .int .u16 a1, .int .u16 a2, .int .u16 a3, .int .u16 a4, .int .u16 a5, .int .u16 a6, .int .u16 a7] 27 (0, 0))) (hr : wc.heap[r]? = some (.cells #[b0, b1, b2, b3, b4, b5, b6, b7] 27 (0, 0))) (hne : r ≠ x) (hB : Below w.heap.size w wc) (hge : w.heap.size ≤ r)
    (h2 : T.getD 2 undef = .pointer (some ⟨r, 0, none⟩)) (h4 : T.getD q undef = .pointer (some ⟨x, 0, none⟩)) (hp : 3 < p) (hps : p < T.size)
    (hQ : ∀ a' w', a'.defers = [] → (results fn a'.tmps).run Tryd.prog w' = .ok (.tuple #[.agg #[.int .u16 a0, .int .u16 a1, .int .u16 a2, .int .u16 a3, .int .u16 a4, .int .u16 a5, .int .u16 a6, .int .u16 a7], .int .i64 c]) w' → Below w.heap.size w w' → Q .normal a' w') :
    Code.wp Tryd.prog (Code.region n #[{ dst := some p, op := Op.load 27 (Operand.tmp q), type := 27, pos := pos1, after := A1, guard := none }, { dst := none, op := Op.store 27 (Operand.tmp 2) (Operand.tmp p), type := 0, pos := pos2, after := A2, guard := none }, { dst := some 3, op := Op.assign (Operand.const (Value.int IntKind.i64 c)), type := 23, pos := pos3, after := A3, guard := none }] false) Q { tmps := T, defers := [] } wc := by
  have hxr : x ≠ r := fun e => hne e.symm
  have e4 : T[q]?.getD undef = .pointer (some ⟨x, 0, none⟩) := by simpa using h4
  have e2 : ∀ v, (T.setIfInBounds p v)[2]?.getD undef = .pointer (some ⟨r, 0, none⟩) := fun v => by
    rw [Array.getElem?_setIfInBounds_ne (by omega)]; simpa using h2
  have ep : ∀ v, (T.setIfInBounds p v)[p]?.getD undef = v := fun v => by
    rw [Array.getElem?_setIfInBounds_self_of_lt hps]; rfl
  have ha0 : wc.cell? ⟨x, 0, none⟩ = some (.int .u16 a0) := (blk_cell hx 0).trans rfl
  have ha1 : wc.cell? ⟨x, 1, none⟩ = some (.int .u16 a1) := (blk_cell hx 1).trans rfl
  have ha2 : wc.cell? ⟨x, 2, none⟩ = some (.int .u16 a2) := (blk_cell hx 2).trans rfl
  have ha3 : wc.cell? ⟨x, 3, none⟩ = some (.int .u16 a3) := (blk_cell hx 3).trans rfl
  have ha4 : wc.cell? ⟨x, 4, none⟩ = some (.int .u16 a4) := (blk_cell hx 4).trans rfl
  have ha5 : wc.cell? ⟨x, 5, none⟩ = some (.int .u16 a5) := (blk_cell hx 5).trans rfl
  have ha6 : wc.cell? ⟨x, 6, none⟩ = some (.int .u16 a6) := (blk_cell hx 6).trans rfl
  have ha7 : wc.cell? ⟨x, 7, none⟩ = some (.int .u16 a7) := (blk_cell hx 7).trans rfl
  have hb0 : wc.cell? ⟨r, 0, none⟩ = some b0 := (blk_cell hr 0).trans rfl
  have hb1 : wc.cell? ⟨r, 1, none⟩ = some b1 := (blk_cell hr 1).trans rfl
  have hb2 : wc.cell? ⟨r, 2, none⟩ = some b2 := (blk_cell hr 2).trans rfl
  have hb3 : wc.cell? ⟨r, 3, none⟩ = some b3 := (blk_cell hr 3).trans rfl
  have hb4 : wc.cell? ⟨r, 4, none⟩ = some b4 := (blk_cell hr 4).trans rfl
  have hb5 : wc.cell? ⟨r, 5, none⟩ = some b5 := (blk_cell hr 5).trans rfl
  have hb6 : wc.cell? ⟨r, 6, none⟩ = some b6 := (blk_cell hr 6).trans rfl
  have hb7 : wc.cell? ⟨r, 7, none⟩ = some b7 := (blk_cell hr 7).trans rfl
  have hf0 := blk_frozen hr 0
  have hf1 := blk_frozen hr 1
  have hf2 := blk_frozen hr 2
  have hf3 := blk_frozen hr 3
  have hf4 := blk_frozen hr 4
  have hf5 := blk_frozen hr 5
  have hf6 := blk_frozen hr 6
  have hf7 := blk_frozen hr 7
  have HX := Aside0.mk hx
  have HR := Aside0.mk hr
  have HP := Aside0.mk (And.intro hp hps)
  have H2 := Aside0.mk h2
  clear hx hr hp hps h2 h4
  go_wp2
  have hr := HR.out
  obtain ⟨hp, hps⟩ := HP.out
  have t2 : ((T.setIfInBounds p (Value.agg #[.int .u16 a0, .int .u16 a1, .int .u16 a2, .int .u16 a3, .int .u16 a4, .int .u16 a5, .int .u16 a6, .int .u16 a7])).setIfInBounds 3 (.int .i64 c)).getD 2 undef = .pointer (some ⟨r, 0, none⟩) := by
    have := H2.out
    simp only [Array.getD_eq_getD_getElem?] at this ⊢
    rw [Array.getElem?_setIfInBounds_ne (by omega), Array.getElem?_setIfInBounds_ne (by omega)]; exact this
  have t3 : ((T.setIfInBounds p (Value.agg #[.int .u16 a0, .int .u16 a1, .int .u16 a2, .int .u16 a3, .int .u16 a4, .int .u16 a5, .int .u16 a6, .int .u16 a7])).setIfInBounds 3 (.int .i64 c)).getD 3 undef = .int .i64 c := by
    simp only [Array.getD_eq_getD_getElem?]
    rw [Array.getElem?_setIfInBounds_self_of_lt (by rw [Array.size_setIfInBounds]; omega)]; rfl
  have h0 := blk_put (cs' := #[.int .u16 a0, b1, b2, b3, b4, b5, b6, b7]) hr 0 (.int .u16 a0) rfl
  have h1 := blk_put (cs' := #[.int .u16 a0, .int .u16 a1, b2, b3, b4, b5, b6, b7]) h0 1 (.int .u16 a1) rfl
  have h2 := blk_put (cs' := #[.int .u16 a0, .int .u16 a1, .int .u16 a2, b3, b4, b5, b6, b7]) h1 2 (.int .u16 a2) rfl
  have h3 := blk_put (cs' := #[.int .u16 a0, .int .u16 a1, .int .u16 a2, .int .u16 a3, b4, b5, b6, b7]) h2 3 (.int .u16 a3) rfl
  have h4 := blk_put (cs' := #[.int .u16 a0, .int .u16 a1, .int .u16 a2, .int .u16 a3, .int .u16 a4, b5, b6, b7]) h3 4 (.int .u16 a4) rfl
  have h5 := blk_put (cs' := #[.int .u16 a0, .int .u16 a1, .int .u16 a2, .int .u16 a3, .int .u16 a4, .int .u16 a5, b6, b7]) h4 5 (.int .u16 a5) rfl
  have h6 := blk_put (cs' := #[.int .u16 a0, .int .u16 a1, .int .u16 a2, .int .u16 a3, .int .u16 a4, .int .u16 a5, .int .u16 a6, b7]) h5 6 (.int .u16 a6) rfl
  have h7 := blk_put (cs' := #[.int .u16 a0, .int .u16 a1, .int .u16 a2, .int .u16 a3, .int .u16 a4, .int .u16 a5, .int .u16 a6, .int .u16 a7]) h6 7 (.int .u16 a7) rfl
  have hh := h7
  refine hQ _ _ rfl ?_ (below_set (below_set (below_set (below_set (below_set (below_set (below_set (below_set hB hge) hge) hge) hge) hge) hge) hge) hge)
  generalize T.setIfInBounds p _ = T1 at t2 t3 ⊢
  generalize T1.setIfInBounds 3 _ = T2 at t2 t3 ⊢
  have := results_ct (P := Tryd.prog) (fn := fn) hfn _ _ r 27 _ (0, 0) _ t2 hh Tryd.underlying27 rfl (by kernel_rfl)
  rw [t3] at this
  exact this
theorem hwp_ret {Q : Exit → Act → World → Prop} {a : Act} {w : World} (h : Q .ret a w) : Code.wp Tryd.prog Code.ret Q a w := by
  go_wp2
  exact h
end Go.Proofs.YtkabhnbjjnjdhaaDoor.Q
