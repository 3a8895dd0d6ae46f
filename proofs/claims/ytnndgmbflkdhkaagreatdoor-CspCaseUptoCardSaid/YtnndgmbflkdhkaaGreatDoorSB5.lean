/- Large letters, plain: what Source reads does not hang on them. -/
/- CspCase, walked. -/
import Derived.Test.YtnndgmbflkdhkaaGreatDoorSSrcL
import Derived.Test.YtnndgmbflkdhkaaGreatDoorSLives
import Derived.Test.YtnndgmbflkdhkaaGreatDoorSB1
section
set_option linter.unusedSimpArgs false
set_option linter.unusedVariables false
namespace Go.Proofs.YtnndgmbflkdhkaaGreatDoor.Q
open Go.RowKit Go.Proofs.YtnndgmbflkdhkaaGreatDoorW.PrintWords Go.Proofs.YtnndgmbflkdhkaaGreatDoorW.PrintLast Go.Proofs.YtnndgmbflkdhkaaGreatDoorW.PrintMore Go.Proofs.YtnndgmbflkdhkaaGreatDoor.P1
theorem up_length (l : List UInt8) : (up l).length = l.length := by simp [up]
theorem up_take (l : List UInt8) (n : Nat) : (up l).take n = up (l.take n) := by simp [up, List.map_take]
theorem up_drop (l : List UInt8) (n : Nat) : (up l).drop n = up (l.drop n) := by simp [up, List.map_drop]
theorem lowC_up (c : UInt8) : lowC (upC c) = lowC c := all_c (p := fun c => lowC (upC c) = lowC c) (by decide +kernel) c
theorem low_up (l : List UInt8) : low (up l) = low l := by unfold low up; rw [List.map_map]; exact List.map_congr_left (fun c _ => lowC_up c)
theorem isAl_up (c : UInt8) : isAl (upC c) = isAl c := all_c (p := fun c => isAl (upC c) = isAl c) (by decide +kernel) c
theorem dig_up (c : UInt8) : dig (upC c) = dig c := all_c (p := fun c => dig (upC c) = dig c) (by decide +kernel) c
theorem up_id (c : UInt8) (h : isAl c = false) : upC c = c := by
  have := all_c (p := fun c => isAl c = false → upC c = c) (by decide +kernel) c
  exact this h
/-- none of them a letter -/
def nl (p : List UInt8) : Bool := p.all fun c => !isAl c
theorem upC_eq (c x : UInt8) (h : isAl x = false) : (upC c = x) = (c = x) := by
  apply propext
  constructor
  · intro e
    have h1 : isAl c = false := by rw [← isAl_up, e]; exact h
    rw [← e, up_id c h1]
  · intro e
    rw [e]; exact up_id x h
theorem inSpan_up (more : List UInt8) (hm : nl more = true) (c : UInt8) : inSpan more (upC c) = inSpan more c := by
  unfold inSpan
  rw [isAl_up, dig_up]
  cases ha : isAl c with
  | true => rfl
  | false => rw [up_id c ha]
theorem takeWhile_up (q : UInt8 → Bool) (hq : ∀ c, q (upC c) = q c) : ∀ l : List UInt8, (up l).takeWhile q = up (l.takeWhile q)
  | [] => rfl
  | c :: l => by
    show (upC c :: up l).takeWhile q = _
    rw [List.takeWhile_cons, List.takeWhile_cons, hq]
    cases q c with
    | true => simp only [if_true]; rw [takeWhile_up q hq l]; rfl
    | false => rfl
theorem spanN_up (more : List UInt8) (hm : nl more = true) (l : List UInt8) : spanN more (up l) = spanN more l := by
  unfold spanN
  rw [takeWhile_up _ (inSpan_up more hm), up_length]
theorem schN_up (l : List UInt8) : schN (up l) = schN l := by
  cases l with
  | nil => rfl
  | cons c l =>
    show (if isAl (upC c) then spanN [43, 45, 46] (up (c :: l)) else 0) = if isAl c then spanN [43, 45, 46] (c :: l) else 0
    rw [isAl_up, spanN_up _ (by decide)]
theorem up_eq (p : List UInt8) (hp : nl p = true) : ∀ l : List UInt8, (up l = p) = (l = p) := by
  induction p with
  | nil => intro l; cases l <;> simp [up]
  | cons x p ih =>
    intro l
    unfold nl at hp ih
    rw [List.all_cons, Bool.and_eq_true] at hp
    cases l with
    | nil => simp [up]
    | cons c l =>
      show (upC c :: up l = x :: p) = _
      rw [List.cons.injEq, List.cons.injEq, upC_eq c x (by simpa using hp.1), ih hp.2 l]
theorem up_beq (p : List UInt8) (hp : nl p = true) (l : List UInt8) : (up l == p) = (l == p) := by
  rw [Bool.eq_iff_iff, beq_iff_eq, beq_iff_eq, up_eq p hp]
theorem preB_up (p : List UInt8) (hp : nl p = true) (l : List UInt8) : preB p (up l) = preB p l := by unfold preB; rw [up_take, up_beq p hp]
theorem sufB_up (p : List UInt8) (hp : nl p = true) (l : List UInt8) : sufB p (up l) = sufB p l := by unfold sufB; rw [up_length, up_drop, up_beq p hp]
theorem pfx_up (p : List UInt8) (hp : nl p = true) : ∀ l : List UInt8, p.isPrefixOf (up l) = p.isPrefixOf l := by
  induction p with
  | nil => intro l; simp
  | cons x p ih =>
    intro l
    unfold nl at hp ih
    rw [List.all_cons, Bool.and_eq_true] at hp
    cases l with
    | nil => rfl
    | cons c l =>
      show (x :: p).isPrefixOf (upC c :: up l) = _
      rw [List.isPrefixOf_cons_cons, List.isPrefixOf_cons_cons, ih hp.2 l]
      congr 1
      rw [Bool.eq_iff_iff, beq_iff_eq, beq_iff_eq, eq_comm, upC_eq c x (by simpa using hp.1), eq_comm]
theorem index_up (p : List UInt8) (hp : nl p = true) : ∀ l : List UInt8, Lib.index (up l) p = Lib.index l p
  | [] => rfl
  | c :: l => by
    show Lib.index (upC c :: up l) p = _
    unfold Lib.index
    rw [index_up p hp l]
    have := pfx_up p hp (c :: l)
    rw [show up (c :: l) = upC c :: up l from rfl] at this
    rw [this]
theorem contains_up (p : List UInt8) (hp : nl p = true) (l : List UInt8) : Lib.contains (up l) p = Lib.contains l p := by unfold Lib.contains; rw [index_up p hp]
theorem codedN_up (l : List UInt8) : codedN (up l) = codedN l := by
  unfold codedN
  rw [spanN_up _ (by decide), up_drop, up_beq [] (by decide), up_beq [61] (by decide), up_beq [61, 61] (by decide)]
theorem srcQ_up (t : List UInt8) : (srcQ (up t)).1 = (srcQ t).1 ∧ (srcQ (up t)).2.2 = (srcQ t).2.2 ∧ ((srcQ t).1 = 2 ∨ (srcQ t).1 = 3 ∨ (srcQ (up t)).2.1 = (srcQ t).2.1) := by
  have hc : (if preB [45] ((up t).drop (Lib.cut (low t) [45]).1.length) then ((up t).drop (Lib.cut (low t) [45]).1.length).drop 1 else (up t).drop (Lib.cut (low t) [45]).1.length) = up (if preB [45] (t.drop (Lib.cut (low t) [45]).1.length) then (t.drop (Lib.cut (low t) [45]).1.length).drop 1 else t.drop (Lib.cut (low t) [45]).1.length) := by
    rw [up_drop, preB_up _ (by decide)]
    split
    · rw [up_drop]
    · rfl
  unfold srcQ
  rw [low_up, hc, codedN_up]
  generalize (if preB [45] (t.drop (Lib.cut (low t) [45]).1.length) then (t.drop (Lib.cut (low t) [45]).1.length).drop 1 else t.drop (Lib.cut (low t) [45]).1.length) = code
  split
  · exact ⟨rfl, rfl, .inr (.inr rfl)⟩
  · split
    · split
      · exact ⟨rfl, rfl, .inl rfl⟩
      · split
        · exact ⟨rfl, rfl, .inr (.inl rfl)⟩
        · exact ⟨rfl, rfl, .inr (.inr rfl)⟩
    · exact ⟨rfl, rfl, .inr (.inr rfl)⟩
theorem quoF_up (l : List UInt8) : (quoF (up l)).1 = (quoF l).1 ∧ (quoF (up l)).2.2 = (quoF l).2.2 ∧ ((quoF l).1 = 2 ∨ (quoF l).1 = 3 ∨ (quoF (up l)).2.1 = (quoF l).2.1) := by
  unfold quoF
  rw [preB_up _ (by decide), up_drop, sufB_up _ (by decide), up_length, up_take]
  split
  · exact srcQ_up _
  · exact ⟨rfl, rfl, .inr (.inr rfl)⟩
theorem schF_up (l : List UInt8) : schF (up l) = schF l := by
  unfold schF
  rw [schN_up, up_take, low_up, up_drop, up_beq _ (by decide)]
theorem hostA_up (l : List UInt8) : hostA (up l) = ((hostA l).1, up (hostA l).2) := by
  unfold hostA
  rw [schN_up, up_drop, pfx_up _ (by decide), up_take, low_up, up_drop]
  split <;> rfl
theorem hostB_up (l : List UInt8) : hostB (up l) = ((hostB l).1, (hostB l).2.1, up (hostB l).2.2) := by
  cases l with
  | nil => rfl
  | cons c t =>
    show hostB (upC c :: up t) = _
    unfold hostB
    simp only [upC_eq c 42 (by decide)]
    split
    · cases t with
      | nil => rfl
      | cons d u =>
        show (if upC d = 46 then _ else _) = _
        simp only [upC_eq d 46 (by decide)]
        split <;> rfl
    · rfl
theorem badName_up (n : List UInt8) : badName (up n) = badName n := by
  unfold badName
  rw [contains_up _ (by decide)]
  cases n with
  | nil => rfl
  | cons c t =>
    have : ((up (c :: t)).head? == some 46) = ((c :: t).head? == some 46) := by
      show (some (upC c) == some 46) = (some c == some 46)
      rw [Bool.eq_iff_iff, beq_iff_eq, beq_iff_eq, Option.some.injEq, Option.some.injEq, upC_eq c 46 (by decide)]
    rw [this]
    rfl
theorem hostC_up (r : List UInt8) : hostC (up r) = (hostC r).map fun x => (x.1, up x.2) := by
  unfold hostC
  rw [spanN_up _ (by decide), up_take, badName_up, low_up, up_drop]
  split <;> rfl
theorem digs_up (l : List UInt8) : digs (up l) = digs l := by unfold digs; rw [takeWhile_up _ dig_up, up_length]
theorem up_digits (l : List UInt8) : up (l.take (digs l)) = l.take (digs l) := by
  have h : l.take (digs l) = l.takeWhile dig := (List.prefix_iff_eq_take.1 (List.takeWhile_prefix dig)).symm
  rw [h]
  unfold up
  conv => rhs; rw [← List.map_id (l.takeWhile dig)]
  apply List.map_congr_left
  intro c hc
  have hd : dig c = true := List.all_eq_true.1 (List.all_takeWhile (p := dig) (l := l)) c hc
  refine up_id c ?_
  have := all_c (p := fun c => dig c = true → isAl c = false) (by decide +kernel) c
  exact this hd
theorem portF_up (l : List UInt8) : portF 0 false false (up l) = (up (portF 0 false false l).1, (portF 0 false false l).2) := by
  cases l with
  | nil => rfl
  | cons c t =>
    show portF 0 false false (upC c :: up t) = _
    unfold portF
    simp only [upC_eq c 58 (by decide)]
    split
    · cases t with
      | nil => rfl
      | cons d u =>
        show (if upC d = 42 then _ else _) = _
        simp only [upC_eq d 42 (by decide)]
        split
        · rfl
        · have e : upC d :: List.map upC u = up (d :: u) := rfl
          rw [e, digs_up, up_take, up_digits, up_drop]
    · rfl
theorem any_up (p : List UInt8) (hp : nl p = true) : ∀ l : List UInt8, Lib.containsAny (up l) p = Lib.containsAny l p := by
  intro l
  have h : Lib.indexAny (up l) p = Lib.indexAny l p := by
    induction l with
    | nil => rfl
    | cons c l ih =>
      show Lib.indexAny (upC c :: up l) p = _
      unfold Lib.indexAny
      have hc : p.contains (upC c) = p.contains c := by
        cases ha : isAl c with
        | false => rw [up_id c ha]
        | true =>
          have h1 : isAl (upC c) = true := by rw [isAl_up]; exact ha
          have hno : ∀ d, isAl d = true → p.contains d = false := by
            intro d hd
            rw [Bool.eq_false_iff]
            intro hm
            have := List.all_eq_true.1 hp d (by simpa using hm)
            rw [hd] at this
            cases this
          rw [hno _ h1, hno _ ha]
      rw [hc, ih]
  unfold Lib.containsAny
  rw [h]
theorem hostD_up (tx sc : List UInt8) (wild : Bool) (r : List UInt8) : (hostD tx sc wild (up r)).1 = (hostD tx sc wild r).1 ∧ (hostD tx sc wild (up r)).2.1 = (hostD tx sc wild r).2.1 ∧ (hostD tx sc wild (up r)).2.2.1 = (hostD tx sc wild r).2.2.1 ∧ (hostD tx sc wild (up r)).2.2.2.1 = (hostD tx sc wild r).2.2.2.1 ∧ (hostD tx sc wild (up r)).2.2.2.2.1 = (hostD tx sc wild r).2.2.2.2.1 ∧ (hostD tx sc wild (up r)).2.2.2.2.2.1 = (hostD tx sc wild r).2.2.2.2.2.1 ∧ (hostD tx sc wild (up r)).2.2.2.2.2.2.2 = (hostD tx sc wild r).2.2.2.2.2.2.2 := by
  unfold hostD
  rw [portF_up]
  simp only [any_up [59, 44, 63, 35] (by decide)]
  refine ⟨trivial, trivial, trivial, trivial, trivial, trivial, ?_⟩
  have h : ∀ q : List UInt8, ((up q).isEmpty || (up q).head? == some 47) = (q.isEmpty || q.head? == some 47) := by
    intro q
    cases q with
    | nil => rfl
    | cons c t =>
      show (some (upC c) == some 47) = (some c == some 47)
      rw [Bool.eq_iff_iff, beq_iff_eq, beq_iff_eq, Option.some.injEq, Option.some.injEq, upC_eq c 47 (by decide)]
  rw [h]
theorem hostF_up (l : List UInt8) : (hostF (up l)).1 = (hostF l).1 ∧ (hostF (up l)).2.1 = (hostF l).2.1 ∧ (hostF (up l)).2.2.1 = (hostF l).2.2.1 ∧ (hostF (up l)).2.2.2.1 = (hostF l).2.2.2.1 ∧ (hostF (up l)).2.2.2.2.1 = (hostF l).2.2.2.2.1 ∧ (hostF (up l)).2.2.2.2.2.1 = (hostF l).2.2.2.2.2.1 ∧ (hostF (up l)).2.2.2.2.2.2.2 = (hostF l).2.2.2.2.2.2.2 := by
  unfold hostF
  rw [hostA_up, hostB_up]
  simp only
  generalize (hostB (hostA l).2).2.2 = r
  generalize (hostB (hostA l).2).2.1 = m
  generalize (hostB (hostA l).2).1 = wd
  generalize (hostA l).1 = sc
  unfold hostG
  cases m with
  | false => exact hostD_up [] sc wd r
  | true =>
    simp only [if_true]
    rw [hostC_up]
    cases hostC r with
    | none => exact ⟨rfl, rfl, rfl, rfl, rfl, rfl, rfl⟩
    | some x => exact hostD_up x.1 sc wd x.2
theorem srcF_up (l : List UInt8) : (srcF (up l)).2.2.2.2.2.2.2.2 = (srcF l).2.2.2.2.2.2.2.2 ∧ (srcF (up l)).1 = (srcF l).1 ∧ ((srcF l).1 = 2 ∨ (srcF l).1 = 3 ∨ ((srcF (up l)).2.1 = (srcF l).2.1 ∧ (srcF (up l)).2.2.1 = (srcF l).2.2.1 ∧ (srcF (up l)).2.2.2.1 = (srcF l).2.2.2.1 ∧ (srcF (up l)).2.2.2.2.1 = (srcF l).2.2.2.2.1 ∧ (srcF (up l)).2.2.2.2.2.1 = (srcF l).2.2.2.2.2.1 ∧ (srcF (up l)).2.2.2.2.2.2.1 = (srcF l).2.2.2.2.2.2.1)) := by
  obtain ⟨q1, q2, q3⟩ := quoF_up l
  obtain ⟨h1, h2, h3, h4, h5, h6, h7⟩ := hostF_up l
  unfold srcF
  rw [up_length, schF_up, q2, q1, h1, h2, h3, h4, h5, h6, h7]
  split
  · split
    · refine ⟨rfl, rfl, ?_⟩
      rcases q3 with q | q | q
      · exact .inl q
      · exact .inr (.inl q)
      · exact .inr (.inr ⟨q, rfl, rfl, rfl, rfl, rfl⟩)
    · split
      · exact ⟨rfl, rfl, .inr (.inr ⟨rfl, rfl, rfl, rfl, rfl, rfl⟩)⟩
      · split <;> exact ⟨rfl, rfl, .inr (.inr ⟨rfl, rfl, rfl, rfl, rfl, rfl⟩)⟩
  · exact ⟨rfl, rfl, .inr (.inr ⟨rfl, rfl, rfl, rfl, rfl, rfl⟩)⟩
end Go.Proofs.YtnndgmbflkdhkaaGreatDoor.Q
end
section
set_option linter.unusedSimpArgs false
set_option linter.unusedVariables false
namespace Go.Proofs.YtnndgmbflkdhkaaGreatDoor.Q
open Go.RowKit Go.Proofs.YtnndgmbflkdhkaaGreatDoorW.PrintWords Go.Proofs.YtnndgmbflkdhkaaGreatDoorW.PrintLast Go.Proofs.YtnndgmbflkdhkaaGreatDoorW.PrintMore Go.Proofs.YtnndgmbflkdhkaaGreatDoor.P1
set_option maxHeartbeats 8000000 in
set_option maxRecDepth 100000 in
theorem cspCase_any (l : List UInt8) (hl : l.length ≤ 140737488351232) (w : World) (hT : UTabs w) : Calls Tryz.prog 5 #[.string (B l)] w fun e w' => e = .returned (.bool true) ∧ Below w.heap.size w w' := by
  have sX := source_f l 6000 (by omega)
  have sY := source_f (up l) 6000 (by omega)
  obtain ⟨u1, u2, u3⟩ := srcF_up l
  generalize srcF l = x at *
  generalize srcF (up l) = y at *
  obtain ⟨x1, x2, x3, x4, x5, x6, x7, x8, x9⟩ := x
  obtain ⟨y1, y2, y3, y4, y5, y6, y7, y8, y9⟩ := y
  simp only at u1 u2 u3 sX sY
  have u1s := u1.symm
  have u2s := u2.symm
  clear u1 u2
  subst u1s u2s
  have HX : Hid (∀ W, UTabs W → Calls Tryz.prog 15 #[.string (B l)] W fun e w' => e = .returned (.tuple #[.agg #[.int .u8 x1, .string (B x2), .string (B x3), .bool x4, .int .i64 x5, .bool x6, .bool x7, .string (B x8)], .int .i64 x9]) ∧ Below W.heap.size W w') := Lib.hid (fun W h => csp_Source.calls 6001 _ _ _ _ _ _ _ _ _ _ W h sX)
  have HY : Hid (∀ W, UTabs W → Calls Tryz.prog 15 #[.string (B (up l))] W fun e w' => e = .returned (.tuple #[.agg #[.int .u8 x1, .string (B y2), .string (B y3), .bool y4, .int .i64 y5, .bool y6, .bool y7, .string (B y8)], .int .i64 x9]) ∧ Below W.heap.size W w') := Lib.hid (fun W h => csp_Source.calls 6001 _ _ _ _ _ _ _ _ _ _ W h sY)
  have HU := Lib.hid (fun W => pct_Upper.calls (B l) _ W (upper_f l (by omega)))
  have HT := Lib.hid hT
  clear sX sY hT hl
  go_enter Tryz.func5, Tryz.ntmps5
  go_wp2_with fail
  refine (lives_any w HT.out).mono ?_
  rintro e w1 ⟨rfl, hb1⟩
  have Z1 := Lib.hid hb1
  clear hb1
  go_wp2_with fail
  refine (HX.out _ (HT.out.below Z1.out)).mono ?_
  rintro e w2 ⟨rfl, hb2⟩
  have Z2 := Lib.hid (Z1.out.trans (hb2.mono Z1.out.size))
  clear hb2
  go_wp2_with fail
  obtain ⟨W2, hW2⟩ : ∃ W2, W2 = w2.alloc (.cells #[.int .u8 x1, .string (B x2), .string (B x3), .bool x4, .int .i64 x5, .bool x6, .bool x7, .string (B x8)] 40) := ⟨_, rfl⟩
  rw [← hW2]
  have P2 : W2.heap[w2.heap.size]? = some (.cells #[.int .u8 x1, .string (B x2), .string (B x3), .bool x4, .int .i64 x5, .bool x6, .bool x7, .string (B x8)] 40 (0, 0)) := by rw [hW2]; exact heap_newQ _ _
  have Y2 := Lib.hid (show Below w.heap.size w W2 by rw [hW2]; exact Z2.out.alloc Z2.out.size _)
  clear hW2
  refine (HU.out _).mono ?_
  rintro e w3 ⟨rfl, hb3⟩
  have P3 := blk_keep P2 hb3
  have Z3 := Lib.hid (Y2.out.trans (hb3.mono Y2.out.size))
  clear hb3 P2
  go_wp2_with fail
  refine (HY.out _ (HT.out.below Z3.out)).mono ?_
  rintro e w4 ⟨rfl, hb4⟩
  have P4 := blk_keep P3 hb4
  have Z4 := Lib.hid (Z3.out.trans (hb4.mono Z3.out.size))
  have hlt := blk_lt0 P4
  clear hb4 P3
  have c0 : w4.cell? ⟨w2.heap.size, 0, none⟩ = some (.int .u8 x1) := by rw [Lib.cell_of_heap P4]; rfl
  have c1 : w4.cell? ⟨w2.heap.size, 1, none⟩ = some (.string (B x2)) := by rw [Lib.cell_of_heap P4]; rfl
  have c2 : w4.cell? ⟨w2.heap.size, 2, none⟩ = some (.string (B x3)) := by rw [Lib.cell_of_heap P4]; rfl
  have c3 : w4.cell? ⟨w2.heap.size, 3, none⟩ = some (.bool x4) := by rw [Lib.cell_of_heap P4]; rfl
  have c4 : w4.cell? ⟨w2.heap.size, 4, none⟩ = some (.int .i64 x5) := by rw [Lib.cell_of_heap P4]; rfl
  have c5 : w4.cell? ⟨w2.heap.size, 5, none⟩ = some (.bool x6) := by rw [Lib.cell_of_heap P4]; rfl
  have c6 : w4.cell? ⟨w2.heap.size, 6, none⟩ = some (.bool x7) := by rw [Lib.cell_of_heap P4]; rfl
  have c7 : w4.cell? ⟨w2.heap.size, 7, none⟩ = some (.string (B x8)) := by rw [Lib.cell_of_heap P4]; rfl
  have f7 : w4.frozen? ⟨w2.heap.size, 7, none⟩ = false := by simp [World.frozen?, P4]
  by_cases h9 : x9 = 0
  · by_cases hk2 : x1 = 2
    · go_wp2
      go_ret
      exact ⟨rfl, Z4.out.alloc Z4.out.size _⟩
    · by_cases hk3 : x1 = 3
      · go_wp2
        go_ret
        exact ⟨rfl, Z4.out.alloc Z4.out.size _⟩
      · obtain ⟨rfl, rfl, rfl, rfl, rfl, rfl⟩ : y2 = x2 ∧ y3 = x3 ∧ y4 = x4 ∧ y5 = x5 ∧ y6 = x6 ∧ y7 = x7 := by
          rcases u3 with u | u | u
          · exact absurd u hk2
          · exact absurd u hk3
          · exact u
        go_wp2
        all_goals
          go_ret
          refine ⟨rfl, ?_⟩
          first | exact Z4.out.alloc Z4.out.size _ | exact (Z4.out.setCell (p := ⟨w2.heap.size, 7, none⟩) Z2.out.size _).alloc (by simpa using Z4.out.size) _
  · go_wp2
    go_ret
    exact ⟨rfl, Z4.out.alloc Z4.out.size _⟩
def bastionlaw14_CspCase.f (a0 : ByteArray) : Option Bool := if a0.size ≤ 140737488351232 then some true else none
theorem bastionlaw14_CspCase.calls (a0 : ByteArray) (r : Bool) (w : World) (hT : UTabs w) (h : bastionlaw14_CspCase.f a0 = some r) :
    Calls Tryz.prog 5 #[.string a0] w fun e w' => e = .returned (.bool r) ∧ Below w.heap.size w w' := by
  unfold bastionlaw14_CspCase.f at h
  split at h
  · rename_i hs
    obtain rfl := Option.some.inj h
    obtain ⟨l, rfl⟩ := B_ex a0
    exact cspCase_any l (by rwa [B_size] at hs) w hT
  · cases h
theorem cspCase_pure (a0 : ByteArray) (h : a0.size ≤ 1048576) : bastionlaw14_CspCase.f a0 = some true := by
  unfold bastionlaw14_CspCase.f
  rw [if_pos (by omega)]
end Go.Proofs.YtnndgmbflkdhkaaGreatDoor.Q
end
