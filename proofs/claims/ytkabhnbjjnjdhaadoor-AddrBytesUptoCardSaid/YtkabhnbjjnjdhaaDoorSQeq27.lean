/- Functions of the given program as plain Lean functions, each with the proof that the machine answers as it does; laid by a program of mine over the kit print. -/
import Derived.Test.YtkabhnbjjnjdhaaDoorSQbase
import Derived.ChangeKeysEq
namespace Go.Proofs.YtkabhnbjjnjdhaaDoor.Q
open Go.RowKit Go.Proofs.YtkabhnbjjnjdhaaDoorW.PrintWords Go.Proofs.YtkabhnbjjnjdhaaDoorW.PrintLast Go.Proofs.YtkabhnbjjnjdhaaDoorW.PrintMore
attribute [local go_sem] max2_int min2_int max_two min_two max_three min_three max_four min_four
set_option linter.unusedVariables false
set_option linter.unusedSimpArgs false
theorem eqi_cons27 {d j : Nat} {xs ys : Array Value} {is : List Nat} {a b : Value} {r s : Bool} {w : World} (ha : (part 26 xs (j * 1)).run Tryd.prog w = .ok a w) (hb : (part 26 ys (j * 1)).run Tryd.prog w = .ok b w) (he : (Op.equalIn d 26 a b).run Tryd.prog w = .ok r w) (hr : (Op.eqItems d 26 1 xs ys is).run Tryd.prog w = .ok s w) : (Op.eqItems d 26 1 xs ys (j :: is)).run Tryd.prog w = .ok (r && s) w := by
  rw [Op.eqItems]
  simp only [Sem.run_bind, ha, hb, he, Result.andThen_ok]
  cases r
  · simp
  · simpa using hr
theorem eqA27 (d : Nat) (w : World) (x0 y0 : Int) (x1 y1 : Int) (x2 y2 : Int) (x3 y3 : Int) (x4 y4 : Int) (x5 y5 : Int) (x6 y6 : Int) (x7 y7 : Int) :
    (Op.equalIn (d + 2) 27 (.agg #[.int .u16 x0, .int .u16 x1, .int .u16 x2, .int .u16 x3, .int .u16 x4, .int .u16 x5, .int .u16 x6, .int .u16 x7]) (.agg #[.int .u16 y0, .int .u16 y1, .int .u16 y2, .int .u16 y3, .int .u16 y4, .int .u16 y5, .int .u16 y6, .int .u16 y7])).run Tryd.prog w = .ok (x0 == y0 && (x1 == y1 && (x2 == y2 && (x3 == y3 && (x4 == y4 && (x5 == y5 && (x6 == y6 && (x7 == y7)))))))) w := by
  obtain ⟨i, hi⟩ := Option.isSome_iff_exists.1 (by kernel_rfl : (Tryd.prog.info? 26).isSome = true)
  have hc1 : Tryd.prog.cellsOf 26 = 1 := by kernel_rfl
  rw [run_equalIn_array w (d + 1) _ _ Tryd.underlying27 hi, hc1, show List.range 8 = [0, 1, 2, 3, 4, 5, 6, 7] from rfl]
  refine eqi_cons27 (by go_simp; rfl) (by go_simp; rfl) (by go_simp) ?_
  refine eqi_cons27 (by go_simp; rfl) (by go_simp; rfl) (by go_simp) ?_
  refine eqi_cons27 (by go_simp; rfl) (by go_simp; rfl) (by go_simp) ?_
  refine eqi_cons27 (by go_simp; rfl) (by go_simp; rfl) (by go_simp) ?_
  refine eqi_cons27 (by go_simp; rfl) (by go_simp; rfl) (by go_simp) ?_
  refine eqi_cons27 (by go_simp; rfl) (by go_simp; rfl) (by go_simp) ?_
  refine eqi_cons27 (by go_simp; rfl) (by go_simp; rfl) (by go_simp) ?_
  rw [← Bool.and_true (x7 == y7)]
  exact eqi_cons27 (by go_simp; rfl) (by go_simp; rfl) (by go_simp) (by simp [Op.eqItems])
end Go.Proofs.YtkabhnbjjnjdhaaDoor.Q
