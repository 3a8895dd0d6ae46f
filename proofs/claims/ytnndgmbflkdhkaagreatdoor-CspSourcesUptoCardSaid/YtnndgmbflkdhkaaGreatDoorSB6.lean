/- bastionref14.hosted: how it returns a struct of eight cells, said once. -/
/- csp.Text, plain. -/
import Derived.Test.YtnndgmbflkdhkaaGreatDoorSQbase
import Derived.Test.YtnndgmbflkdhkaaGreatDoorSCheck
import Derived.Test.YtnndgmbflkdhkaaGreatDoorSB5
import Derived.Test.YtnndgmbflkdhkaaGreatDoorSB8
import Derived.Test.YtnndgmbflkdhkaaGreatDoorSQcspTextA
section
set_option linter.unusedVariables false
namespace Go.Proofs.YtnndgmbflkdhkaaGreatDoor.Q
open Go.RowKit Go.Proofs.YtnndgmbflkdhkaaGreatDoorW.PrintWords Go.Proofs.YtnndgmbflkdhkaaGreatDoorW.PrintLast Go.Proofs.YtnndgmbflkdhkaaGreatDoorW.PrintMore
set_option maxRecDepth 100000 in
set_option maxHeartbeats 4000000 in
theorem hcopy {T : Array Value} {n p : Nat} {pos : String} {b : Bool} {x r : Nat} {w wc : World} {Q : Exit → Act → World → Prop} {a0 : Int} {a1 a2 : ByteArray} {a3 : Bool} {a4 : Int} {a5 a6 : Bool} {a7 : ByteArray} {b0 b1 b2 b3 b4 b5 b6 b7 : Value}
    (hx : wc.heap[x]? = some (.cells #[.int .u8 a0, .string a1, .string a2, .bool a3, .int .i64 a4, .bool a5, .bool a6, .string a7] 40 (0, 0))) (hr : wc.heap[r]? = some (.cells #[b0, b1, b2, b3, b4, b5, b6, b7] 40 (0, 0))) (hne : r ≠ x) (hB : Below w.heap.size w wc) (hge : w.heap.size ≤ r)
    (h2 : T.getD 2 undef = .pointer (some ⟨r, 0, none⟩)) (h4 : T.getD 4 undef = .pointer (some ⟨x, 0, none⟩)) (hp : 4 < p) (hps : p < T.size)
    (hQ : ∀ a' w', a'.defers = [] → (results Tryz.f47 a'.tmps).run Tryz.prog w' = .ok (.tuple #[.agg #[.int .u8 a0, .string a1, .string a2, .bool a3, .int .i64 a4, .bool a5, .bool a6, .string a7], .bool b]) w' → Below w.heap.size w w' → Q .normal a' w') :
    Code.wp Tryz.prog (Code.region n #[{ dst := some p, op := Op.load 40 (Operand.tmp 4), type := 40, pos := pos, after := #[], guard := none }, { dst := none, op := Op.store 40 (Operand.tmp 2) (Operand.tmp p), type := 0, pos := pos, after := #[{ on := 0, ground := Ground.data }, { on := 0, ground := Ground.phase }], guard := none }, { dst := some 3, op := Op.assign (Operand.const (Value.bool b)), type := 4, pos := pos, after := #[{ on := 1, ground := Ground.chain }, { on := 0, ground := Ground.phase }, { on := 1, ground := Ground.phase }], guard := none }] false) Q (Act.mk T []) wc := by
  have hxr : x ≠ r := fun e => hne e.symm
  have e4 : T[4]?.getD undef = .pointer (some ⟨x, 0, none⟩) := by simpa using h4
  have e2 : ∀ v, (T.setIfInBounds p v)[2]?.getD undef = .pointer (some ⟨r, 0, none⟩) := fun v => by
    rw [Array.getElem?_setIfInBounds_ne (by omega)]; simpa using h2
  have ep : ∀ v, (T.setIfInBounds p v)[p]?.getD undef = v := fun v => by
    rw [Array.getElem?_setIfInBounds_self_of_lt hps]; rfl
  have ha0 : wc.cell? ⟨x, 0, none⟩ = some (.int .u8 a0) := (blk_cell hx 0).trans rfl
  have ha1 : wc.cell? ⟨x, 1, none⟩ = some (.string a1) := (blk_cell hx 1).trans rfl
  have ha2 : wc.cell? ⟨x, 2, none⟩ = some (.string a2) := (blk_cell hx 2).trans rfl
  have ha3 : wc.cell? ⟨x, 3, none⟩ = some (.bool a3) := (blk_cell hx 3).trans rfl
  have ha4 : wc.cell? ⟨x, 4, none⟩ = some (.int .i64 a4) := (blk_cell hx 4).trans rfl
  have ha5 : wc.cell? ⟨x, 5, none⟩ = some (.bool a5) := (blk_cell hx 5).trans rfl
  have ha6 : wc.cell? ⟨x, 6, none⟩ = some (.bool a6) := (blk_cell hx 6).trans rfl
  have ha7 : wc.cell? ⟨x, 7, none⟩ = some (.string a7) := (blk_cell hx 7).trans rfl
  have hb0 : wc.cell? ⟨r, 0, none⟩ = some b0 := (blk_cell hr 0).trans rfl
  have hb1 : wc.cell? ⟨r, 1, none⟩ = some b1 := (blk_cell hr 1).trans rfl
  have hb2 : wc.cell? ⟨r, 2, none⟩ = some b2 := (blk_cell hr 2).trans rfl
  have hb3 : wc.cell? ⟨r, 3, none⟩ = some b3 := (blk_cell hr 3).trans rfl
  have hb4 : wc.cell? ⟨r, 4, none⟩ = some b4 := (blk_cell hr 4).trans rfl
  have hb5 : wc.cell? ⟨r, 5, none⟩ = some b5 := (blk_cell hr 5).trans rfl
  have hb6 : wc.cell? ⟨r, 6, none⟩ = some b6 := (blk_cell hr 6).trans rfl
  have hb7 : wc.cell? ⟨r, 7, none⟩ = some b7 := (blk_cell hr 7).trans rfl
  have hf0 := blk_frozen hr 0
  have hf1 := blk_frozen hr 1
  have hf2 := blk_frozen hr 2
  have hf3 := blk_frozen hr 3
  have hf4 := blk_frozen hr 4
  have hf5 := blk_frozen hr 5
  have hf6 := blk_frozen hr 6
  have hf7 := blk_frozen hr 7
  have HX := Aside0.mk hx
  have HR := Aside0.mk hr
  have HP := Aside0.mk (And.intro hp hps)
  have H2 := Aside0.mk h2
  clear hx hr hp hps h2 h4
  go_wp2
  have hr := HR.out
  obtain ⟨hp, hps⟩ := HP.out
  have t2 : ((T.setIfInBounds p (Value.agg #[.int .u8 a0, .string a1, .string a2, .bool a3, .int .i64 a4, .bool a5, .bool a6, .string a7])).setIfInBounds 3 (.bool b)).getD 2 undef = .pointer (some ⟨r, 0, none⟩) := by
    have := H2.out
    simp only [Array.getD_eq_getD_getElem?] at this ⊢
    rw [Array.getElem?_setIfInBounds_ne (by omega), Array.getElem?_setIfInBounds_ne (by omega)]; exact this
  have t3 : ((T.setIfInBounds p (Value.agg #[.int .u8 a0, .string a1, .string a2, .bool a3, .int .i64 a4, .bool a5, .bool a6, .string a7])).setIfInBounds 3 (.bool b)).getD 3 undef = .bool b := by
    simp only [Array.getD_eq_getD_getElem?]
    rw [Array.getElem?_setIfInBounds_self_of_lt (by rw [Array.size_setIfInBounds]; omega)]; rfl
  have h0 := blk_put (cs' := #[.int .u8 a0, b1, b2, b3, b4, b5, b6, b7]) hr 0 (.int .u8 a0) rfl
  have h1 := blk_put (cs' := #[.int .u8 a0, .string a1, b2, b3, b4, b5, b6, b7]) h0 1 (.string a1) rfl
  have h2 := blk_put (cs' := #[.int .u8 a0, .string a1, .string a2, b3, b4, b5, b6, b7]) h1 2 (.string a2) rfl
  have h3 := blk_put (cs' := #[.int .u8 a0, .string a1, .string a2, .bool a3, b4, b5, b6, b7]) h2 3 (.bool a3) rfl
  have h4 := blk_put (cs' := #[.int .u8 a0, .string a1, .string a2, .bool a3, .int .i64 a4, b5, b6, b7]) h3 4 (.int .i64 a4) rfl
  have h5 := blk_put (cs' := #[.int .u8 a0, .string a1, .string a2, .bool a3, .int .i64 a4, .bool a5, b6, b7]) h4 5 (.bool a5) rfl
  have h6 := blk_put (cs' := #[.int .u8 a0, .string a1, .string a2, .bool a3, .int .i64 a4, .bool a5, .bool a6, b7]) h5 6 (.bool a6) rfl
  have h7 := blk_put (cs' := #[.int .u8 a0, .string a1, .string a2, .bool a3, .int .i64 a4, .bool a5, .bool a6, .string a7]) h6 7 (.string a7) rfl
  have hh := h7
  refine hQ _ _ rfl ?_ (below_set (below_set (below_set (below_set (below_set (below_set (below_set (below_set hB hge) hge) hge) hge) hge) hge) hge) hge)
  generalize T.setIfInBounds p _ = T1 at t2 t3 ⊢
  generalize T1.setIfInBounds 3 _ = T2 at t2 t3 ⊢
  have := results_ct (P := Tryz.prog) (fn := Tryz.f47) rfl _ _ r 40 _ (0, 0) _ t2 hh Tryz.underlying40 rfl (by kernel_rfl)
  rw [t3] at this
  exact this
theorem hwp_ret {Q : Exit → Act → World → Prop} {a : Act} {w : World} (h : Q .ret a w) : Code.wp Tryz.prog Code.ret Q a w := by
  go_wp2
  exact h
end Go.Proofs.YtnndgmbflkdhkaaGreatDoor.Q
end
section
set_option linter.unusedSimpArgs false
set_option linter.unusedVariables false
namespace Go.Proofs.YtnndgmbflkdhkaaGreatDoor.Q
open Go.RowKit Go.Proofs.YtnndgmbflkdhkaaGreatDoorW.PrintWords Go.Proofs.YtnndgmbflkdhkaaGreatDoorW.PrintLast Go.Proofs.YtnndgmbflkdhkaaGreatDoorW.PrintMore Go.Proofs.YtnndgmbflkdhkaaGreatDoor.P1
def lineL (d : S35) : List UInt8 := Lib.join ((d.f0 :: d.f1).map (·.data.toList)) [32]
def textL (l : List S35) : List UInt8 := Lib.join (l.map lineL) [59, 32]
theorem join_two (x y : List UInt8) (r : List (List UInt8)) (sep : List UInt8) : Lib.join (x :: y :: r) sep = x ++ (sep ++ Lib.join (y :: r) sep) := by simp [Lib.join, List.intercalate, List.intersperse]
theorem join_le (sep : List UInt8) (m : Nat) : ∀ (xs : List (List UInt8)), (∀ x ∈ xs, x.length ≤ m) → (Lib.join xs sep).length ≤ xs.length * (m + sep.length)
  | [], _ => by simp [Lib.join]
  | [x], h => by have := h x (by simp); simp [Lib.join]; omega
  | x :: y :: r, h => by
    have h1 := h x (by simp)
    have h2 := join_le sep m (y :: r) (fun z hz => h z (by simp [hz]))
    rw [join_two]
    simp only [List.length_append, List.length_cons, Nat.add_mul, Nat.one_mul] at h2 ⊢
    omega
theorem okAt_get (l : List S35) : ∀ n, okAt l n = true → l.length ≤ 64 ∧ ∀ i < n, dirOk (l.take i) (rd_T35 l (i : Int)) = true ∧ ((rd_T35 l (i : Int)).f1.any fun v => !wordV v) = false
  | 0, h => ⟨by simpa [okAt] using h, fun i hi => by omega⟩
  | n + 1, h => by
    simp only [okAt, Bool.and_eq_true, Bool.not_eq_true'] at h
    obtain ⟨⟨h1, h2⟩, h3⟩ := h
    obtain ⟨h4, h5⟩ := okAt_get l n h1
    refine ⟨h4, fun i hi => ?_⟩
    by_cases hin : i < n
    · exact h5 i hin
    · obtain rfl : i = n := by omega
      exact ⟨h2, h3⟩
theorem line_join (d : S35) (hs : dirSmall d = true) (h64 : d.f1.length ≤ 64) : strings_Join.f (([d.f0] : List ByteArray) ++ d.f1) (⟨#[32]⟩ : ByteArray) = some (B (lineL d)) ∧ (lineL d).length ≤ 68157505 := by
  simp only [dirSmall, Bool.and_eq_true, decide_eq_true_eq] at hs
  obtain ⟨⟨h1, h2⟩, h3⟩ := hs
  have hall : ∀ x ∈ ((d.f0 :: d.f1).map (·.data.toList)), x.length ≤ 1048576 := by
    intro x hx
    rcases List.mem_map.1 hx with ⟨y, hy, rfl⟩
    rw [Array.length_toList]
    rcases List.mem_cons.1 hy with rfl | hy
    · exact h1
    · exact of_decide_eq_true (List.all_eq_true.1 h3 y hy)
  have hj := join_le [32] 1048576 _ hall
  rw [List.length_map, List.length_cons] at hj
  have hj2 : (lineL d).length ≤ 68157505 := by
    unfold lineL
    refine Nat.le_trans hj ?_
    have : (d.f1.length + 1) * (1048576 + ([32] : List UInt8).length) ≤ 65 * 1048577 := Nat.mul_le_mul (by omega) (by simp)
    omega
  refine ⟨?_, hj2⟩
  unfold strings_Join.f
  rw [if_pos ⟨by simp; omega, by unfold joinB; exact Nat.le_trans hj2 (by omega)⟩]
  rfl
theorem text_l0 (l : List S35) (hl : l.length ≤ 64) (hsm : ∀ d ∈ l, dirSmall d = true) (h64 : ∀ d ∈ l, d.f1.length ≤ 64) : ∀ (n k i : Nat), l.length - i = n → n < k → i ≤ l.length →
    csp_Text.l0 k ((l.take i).map fun d => B (lineL d)) l (l.length : Int) (i : Int) = some (B (textL l), 0) := by
  intro n
  induction n with
  | zero =>
    intro k i hn hk hi
    obtain ⟨k, rfl⟩ : ∃ m, k = m + 1 := ⟨k - 1, by omega⟩
    have hil : i = l.length := by omega
    simp only [csp_Text.l0]
    rw [if_neg (by omega), hil, List.take_length]
    have hall : ∀ x ∈ l.map lineL, x.length ≤ 68157505 := by
      intro x hx
      rcases List.mem_map.1 hx with ⟨d, hd, rfl⟩
      exact (line_join d (hsm d hd) (h64 d hd)).2
    have hj := join_le [59, 32] 68157505 _ hall
    rw [List.length_map] at hj
    have hb : (textL l).length ≤ 140737488355328 := by
      refine Nat.le_trans hj ?_
      have : l.length * (68157505 + ([59, 32] : List UInt8).length) ≤ 64 * 68157507 := Nat.mul_le_mul hl (by simp)
      omega
    have e : joinB (l.map fun d => B (lineL d)) (⟨#[59, 32]⟩ : ByteArray) = textL l := by
      unfold joinB textL
      rw [List.map_map]
      rfl
    unfold strings_Join.f
    rw [e, if_pos ⟨by rw [List.length_map]; omega, hb⟩]
    rfl
  | succ n ih =>
    intro k i hn hk hi
    obtain ⟨k, rfl⟩ : ∃ m, k = m + 1 := ⟨k - 1, by omega⟩
    have hlt : i < l.length := by omega
    have hr : rd_T35 l (i : Int) = l[i]'hlt := by
      unfold rd_T35
      simp [List.getD_eq_getElem?_getD, hlt]
    have hmem : l[i]'hlt ∈ l := List.getElem_mem _
    have hs := hsm _ hmem
    have h6 := h64 _ hmem
    have hw : wrap64 ((i : Int) + 1) = ((i + 1 : Nat) : Int) := by rw [w64 (by omega) (by omega)]; omega
    simp only [csp_Text.l0]
    rw [if_pos (by omega), if_pos (by omega), if_pos (by omega), hr]
    simp only [Option.bind_some]
    rw [if_pos (by simp; omega), (line_join _ hs h6).1]
    simp only [Option.bind_some]
    rw [if_pos (by simp; omega), hw]
    have := ih k (i + 1) (by omega) (by omega) (by omega)
    rw [List.take_add_one, List.getElem?_eq_getElem hlt, Option.toList_some, List.map_append] at this
    exact this
theorem text_ok (l : List S35) (rep : Bool) (hok : okAt l l.length = true) (hsm : l.all dirSmall = true) (k : Nat) (hk : 64 < k) : csp_Text.f k l rep = some (B (textL l), 0) := by
  obtain ⟨hl, hg⟩ := okAt_get l _ hok
  unfold csp_Text.f csp_Check.f
  rw [if_pos ⟨by omega, hsm⟩, hok]
  simp only [Option.bind_some, if_true]
  refine text_l0 l hl (fun d hd => List.all_eq_true.1 hsm d hd) (fun d hd => ?_) l.length k 0 (by omega) (by omega) (by omega)
  obtain ⟨i, hi, rfl⟩ := List.mem_iff_getElem.1 hd
  have h := (hg i hi).1
  have hr : rd_T35 l (i : Int) = l[i]'hi := by
    unfold rd_T35
    simp [List.getD_eq_getElem?_getD, hi]
  rw [hr] at h
  simp only [dirOk, Bool.and_eq_true, decide_eq_true_eq] at h
  exact h.1.2
end Go.Proofs.YtnndgmbflkdhkaaGreatDoor.Q
end
