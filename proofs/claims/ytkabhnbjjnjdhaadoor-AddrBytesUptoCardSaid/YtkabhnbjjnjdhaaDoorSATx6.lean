/- addr.TextV6: an address of eight pieces, as it is written. -/
import Derived.Test.YtkabhnbjjnjdhaaDoorSAGap
import Derived.Test.YtkabhnbjjnjdhaaDoorSFmtU
import Derived.Test.YtkabhnbjjnjdhaaDoorSJoin
import Derived.Test.YtkabhnbjjnjdhaaDoorSAllF
import Derived.Test.YtkabhnbjjnjdhaaDoorSQeq27
import Derived.Test.YtkabhnbjjnjdhaaDoorSQaddrhexA
set_option linter.unusedSimpArgs false
set_option linter.unusedVariables false
namespace Go.Proofs.YtkabhnbjjnjdhaaDoor.Q
open Go.RowKit Go.Proofs.YtkabhnbjjnjdhaaDoorW.PrintWords Go.Proofs.YtkabhnbjjnjdhaaDoorW.PrintLast Go.Proofs.YtkabhnbjjnjdhaaDoorW.PrintMore Go.Proofs.YtkabhnbjjnjdhaaDoor.Ad
attribute [local go_sem high] eqA27
theorem hexU_len (n : Nat) : (hexU n).length ≤ 4 := by
  unfold hexU hexS hexJ
  rw [List.length_map, List.length_range]
  split
  · omega
  · split
    · omega
    · split <;> omega
theorem join_len (sep : List UInt8) (hs : sep.length ≤ 1) : ∀ xs : List (List UInt8), (∀ x ∈ xs, x.length ≤ 4) → (Lib.join xs sep).length ≤ 5 * xs.length
  | [], _ => by rw [Lib.join_nil]; simp
  | x :: r, h => by
    rw [Lib.join_cons, List.length_append]
    have h1 := h x List.mem_cons_self
    have h2 : ∀ r : List (List UInt8), (∀ x ∈ r, x.length ≤ 4) → (Lib.joinTail sep r).length ≤ 5 * r.length := by
      intro r
      unfold Lib.joinTail
      induction r with
      | nil => intro _; simp
      | cons y q ih =>
        intro hq
        have := ih (fun z hz => hq z (List.mem_cons_of_mem _ hz))
        have hy := hq y List.mem_cons_self
        rw [List.map_cons, List.flatten_cons, List.length_append, List.length_append, List.length_cons]
        omega
    have := h2 r (fun z hz => h z (List.mem_cons_of_mem _ hz))
    rw [List.length_cons]
    omega
theorem hex_loop (xs : List Nat) (hx : ∀ x ∈ xs, x < 65536) (hn : xs.length ≤ 1000) : ∀ (d i : Nat), i + d = xs.length → addr_hex.l0 (d + 1) ((xs.take i).map fun x => B (hexU x)) (xs.map fun x : Nat => (x : Int)) (xs.length : Int) (i : Int) = some ⟨(hexJoin xs).toArray⟩
  | 0, i, h => by
    obtain rfl : i = xs.length := by omega
    unfold addr_hex.l0
    rw [if_neg (by omega), List.take_length]
    unfold strings_Join.f
    have hj : joinB (xs.map fun x => B (hexU x)) ⟨#[58]⟩ = hexJoin xs := by
      unfold joinB hexJoin
      rw [List.map_map]
      rfl
    have hl := join_len [58] (by simp) (xs.map hexU) (fun x hx => by obtain ⟨y, _, rfl⟩ := List.mem_map.1 hx; exact hexU_len y)
    rw [List.length_map] at hl
    rw [if_pos ⟨by rw [List.length_map]; omega, by rw [hj]; show (Lib.join (xs.map hexU) [58]).length ≤ _; omega⟩, hj]
    rfl
  | d + 1, i, h => by
    have hi : i < xs.length := by omega
    unfold addr_hex.l0
    rw [if_pos (by omega), if_pos (by omega), if_pos (by rw [List.length_map]; omega)]
    have hrd : rd (xs.map fun x : Nat => (x : Int)) (i : Int) = (xs[i] : Int) := by
      unfold rd
      rw [Int.toNat_natCast, List.getD_eq_getElem?_getD, List.getElem?_map, List.getElem?_eq_getElem hi]; rfl
    have hlt := hx xs[i] (List.getElem_mem hi)
    have hw : IntKind.u64.wrap (xs[i] : Int) = xs[i] := by rw [IntKind.wrap_u64]; omega
    rw [hrd, hw]
    unfold strconv_FormatUint_51.f
    rw [if_pos ⟨by omega, by omega, rfl⟩, Int.toNat_natCast]
    simp only [Option.bind_some]
    rw [if_pos (by rw [List.length_map, List.length_take]; omega)]
    have hstep : ((xs.take i).map fun x => B (hexU x)) ++ [⟨(hexU xs[i]).toArray⟩] = (xs.take (i + 1)).map fun x => B (hexU x) := by
      rw [List.take_succ_eq_append_getElem hi, List.map_append]; rfl
    have hw2 : wrap64 ((i : Int) + 1) = ((i + 1 : Nat) : Int) := by unfold wrap64; omega
    rw [hstep, hw2]
    exact hex_loop xs hx hn d (i + 1) (by omega)
theorem hex_f (xs : List Nat) (hx : ∀ x ∈ xs, x < 65536) (hn : xs.length ≤ 1000) : addr_hex.f (xs.length + 1) (xs.map fun x : Nat => (x : Int)) = some ⟨(hexJoin xs).toArray⟩ := by
  unfold addr_hex.f
  rw [List.length_map]
  exact hex_loop xs hx hn xs.length 0 (by omega)
theorem hex_call (xs : List Nat) (hx : ∀ x ∈ xs, x < 65536) (hn : xs.length ≤ 1000) (A : Option Addr) (c : Nat) (w : World) (hT : UTabs w) (hC : Kd.C (Kd.int .u16) w A xs.length (xs.map fun x : Nat => (x : Int))) (hc : xs.length ≤ c) :
    Calls Tryd.prog 36 #[.slice A xs.length c] w fun e w' => e = .returned (.string ⟨(hexJoin xs).toArray⟩) ∧ Below w.heap.size w w' := by
  have := addr_hex.calls (xs.length + 1) A c (xs.map fun x : Nat => (x : Int)) _ w (by rw [List.length_map]; exact hC) (by rw [List.length_map]; exact hc) hT (hex_f xs hx hn)
  rwa [List.length_map] at this
theorem gap_all : ∀ b0 b1 b2 b3 b4 b5 b6 b7 : Bool, (gapB [b0, b1, b2, b3, b4, b5, b6, b7]).2 = 0 ∨ ((gapB [b0, b1, b2, b3, b4, b5, b6, b7]).1 + 2 ≤ (gapB [b0, b1, b2, b3, b4, b5, b6, b7]).2 ∧ (gapB [b0, b1, b2, b3, b4, b5, b6, b7]).2 ≤ 8) := by decide +kernel
theorem row_C (w : World) (cs : Array Value) (t : TypeId) (xs : List Int) (h : cs.toList = xs.map (Value.int .u16)) (hn : xs.length ≤ 1000) : Kd.C (Kd.int .u16) (w.alloc (.cells cs t)) (some ⟨w.heap.size, 0, none⟩) xs.length xs := by
  refine ⟨rfl, by omega, fun _ => ⟨_, rfl, fun j p hj => ⟨[.int .u16 p], rfl, rfl, fun i u hu => ?_⟩⟩⟩
  obtain ⟨hjl, hp⟩ := List.getElem?_eq_some_iff.1 hj
  have hi : i = 0 := by
    have := (List.getElem?_eq_some_iff.1 hu).1
    simpa using this
  subst hi
  have hu' : Value.int .u16 p = u := by simpa using hu
  subst hu'
  have := gap_cell w cs t xs h j hjl
  rw [List.getD_eq_getElem?_getD, hj] at this
  have hadd : (⟨w.heap.size, 0, none⟩ : Addr).add (j * (Kd.int .u16).sz + 0) = ⟨w.heap.size, j, none⟩ := by
    show (⟨w.heap.size, 0, none⟩ : Addr).add (j * 1 + 0) = _
    rw [Nat.mul_one, Nat.add_zero]
    unfold Addr.add; split <;> simp_all
  rw [hadd]
  exact this
theorem u16z (n : Nat) : ((n : Int) == 0) = (n == 0) := by
  by_cases h : n = 0
  · subst h; rfl
  · rw [beq_eq_false_iff_ne.2 h, beq_eq_false_iff_ne.2 (by omega)]
set_option maxRecDepth 100000 in
set_option maxHeartbeats 8000000 in
theorem textV6_calls (n0 n1 n2 n3 n4 n5 n6 n7 : Nat) (hn : ∀ x ∈ [n0, n1, n2, n3, n4, n5, n6, n7], x < 65536) (w : World) (hT : UTabs w) :
    Calls Tryd.prog 19 #[.agg #[.int .u16 (n0 : Int), .int .u16 (n1 : Int), .int .u16 (n2 : Int), .int .u16 (n3 : Int), .int .u16 (n4 : Int), .int .u16 (n5 : Int), .int .u16 (n6 : Int), .int .u16 (n7 : Int)]] w fun e w' => e = .returned (.string ⟨(txt6 [n0, n1, n2, n3, n4, n5, n6, n7]).toArray⟩) ∧ Below w.heap.size w w' := by
  have e35 : ∀ args w, (callFunc 35 args).run Tryd.prog w = .ok (.enter 35 args) w := enters_of Tryd.func35 (by kernel_rfl) rfl
  have e36 : ∀ args w, (callFunc 36 args).run Tryd.prog w = .ok (.enter 36 args) w := enters_of Tryd.func36 (by kernel_rfl) rfl
  have hgap := fun W => gap_calls (n0 : Int) (n1 : Int) (n2 : Int) (n3 : Int) (n4 : Int) (n5 : Int) (n6 : Int) (n7 : Int) W
  have hga := gap_all (n0 == 0) (n1 == 0) (n2 == 0) (n3 == 0) (n4 == 0) (n5 == 0) (n6 == 0) (n7 == 0)
  simp only [u16z] at hgap
  have hz : isZ [n0, n1, n2, n3, n4, n5, n6, n7] = [n0 == 0, n1 == 0, n2 == 0, n3 == 0, n4 == 0, n5 == 0, n6 == 0, n7 == 0] := rfl
  have htx : txt6 [n0, n1, n2, n3, n4, n5, n6, n7] = if (isZ [n0, n1, n2, n3, n4, n5, n6, n7]).all id then [58, 58] else if (gapB (isZ [n0, n1, n2, n3, n4, n5, n6, n7])).2 = 0 then hexJoin [n0, n1, n2, n3, n4, n5, n6, n7] else hexJoin ([n0, n1, n2, n3, n4, n5, n6, n7].take (gapB (isZ [n0, n1, n2, n3, n4, n5, n6, n7])).1) ++ [58, 58] ++ hexJoin ([n0, n1, n2, n3, n4, n5, n6, n7].drop (gapB (isZ [n0, n1, n2, n3, n4, n5, n6, n7])).2) := rfl
  rw [hz] at htx
  have hall : ([n0 == 0, n1 == 0, n2 == 0, n3 == 0, n4 == 0, n5 == 0, n6 == 0, n7 == 0] : List Bool).all id = (n0 == 0 && (n1 == 0 && (n2 == 0 && (n3 == 0 && (n4 == 0 && (n5 == 0 && (n6 == 0 && (n7 == 0)))))))) := by simp
  rw [hall] at htx
  generalize gapB [n0 == 0, n1 == 0, n2 == 0, n3 == 0, n4 == 0, n5 == 0, n6 == 0, n7 == 0] = g at *
  obtain ⟨f, t⟩ := g
  have hC0 := row_C w #[.int .u16 (n0 : Int), .int .u16 (n1 : Int), .int .u16 (n2 : Int), .int .u16 (n3 : Int), .int .u16 (n4 : Int), .int .u16 (n5 : Int), .int .u16 (n6 : Int), .int .u16 (n7 : Int)] 27 ([n0, n1, n2, n3, n4, n5, n6, n7].map fun x : Nat => (x : Int)) rfl (by simp)
  have hall0 := fun W (hTW : UTabs W) hC => hex_call [n0, n1, n2, n3, n4, n5, n6, n7] hn (by simp) (some ⟨w.heap.size, 0, none⟩) 8 W hTW hC (by simp)
  have hall1 := fun W (hTW : UTabs W) A c hC hc => hex_call ([n0, n1, n2, n3, n4, n5, n6, n7].take f) (fun x hx => hn x (List.mem_of_mem_take hx)) (by simp; omega) A c W hTW hC hc
  have hall2 := fun W (hTW : UTabs W) A c hC hc => hex_call ([n0, n1, n2, n3, n4, n5, n6, n7].drop t) (fun x hx => hn x (List.mem_of_mem_drop hx)) (by simp; omega) A c W hTW hC hc
  have hl : ([n0, n1, n2, n3, n4, n5, n6, n7] : List Nat).length = 8 := rfl
  generalize txt6 [n0, n1, n2, n3, n4, n5, n6, n7] = tx at *
  have hzb : ((n0 : Int) == 0 && ((n1 : Int) == 0 && ((n2 : Int) == 0 && ((n3 : Int) == 0 && ((n4 : Int) == 0 && ((n5 : Int) == 0 && ((n6 : Int) == 0 && ((n7 : Int) == 0)))))))) = (n0 == 0 && (n1 == 0 && (n2 == 0 && (n3 == 0 && (n4 == 0 && (n5 == 0 && (n6 == 0 && (n7 == 0)))))))) := by simp only [u16z]
  obtain ⟨l, hl'⟩ : ∃ l, l = [n0, n1, n2, n3, n4, n5, n6, n7] := ⟨_, rfl⟩
  rw [← hl'] at hall0 hall1 hall2 hC0 htx hl
  have HC0 := Lib.hid hC0
  have HTX := Lib.hid htx
  have HT := Lib.hid hT
  have HALL0 := Lib.hid hall0
  have HALL1 := Lib.hid hall1
  have HALL2 := Lib.hid hall2
  have HL := Lib.hid hl
  have HGA := Lib.hid hga
  generalize hzz : (n0 == 0 && (n1 == 0 && (n2 == 0 && (n3 == 0 && (n4 == 0 && (n5 == 0 && (n6 == 0 && (n7 == 0)))))))) = z at *
  clear hC0 htx hT hall0 hall1 hall2 hl hga hall hz hl' hzz hn
  have hW0 : Below w.heap.size w (w.alloc (.cells #[.int .u16 (n0 : Int), .int .u16 (n1 : Int), .int .u16 (n2 : Int), .int .u16 (n3 : Int), .int .u16 (n4 : Int), .int .u16 (n5 : Int), .int .u16 (n6 : Int), .int .u16 (n7 : Int)] 27)) := (Below.refl _ w).alloc (Nat.le_refl _) _
  have HW0 := Lib.hid hW0
  clear hW0
  go_enter Tryd.func19, Tryd.ntmps19
  go_wp2_with fail
  refine (hgap _).mono ?_
  rintro e w1 ⟨rfl, hb1⟩
  have HB1 := Lib.hid (HW0.out.trans (hb1.mono (by rw [allocSz]; omega)))
  have hC1 := Kd.C_below HC0.out hb1
  have hblk : w1.heap[w.heap.size]? = some (.cells #[.int .u16 (n0 : Int), .int .u16 (n1 : Int), .int .u16 (n2 : Int), .int .u16 (n3 : Int), .int .u16 (n4 : Int), .int .u16 (n5 : Int), .int .u16 (n6 : Int), .int .u16 (n7 : Int)] 27) := (hb1.block _ (by rw [allocSz]; omega)).trans (heapNew w _)
  have hk0 : w1.cell? ⟨w.heap.size, 0, none⟩ = some (.int .u16 (n0 : Int)) := (blk_cell hblk 0).trans rfl
  have hk1 : w1.cell? ⟨w.heap.size, 1, none⟩ = some (.int .u16 (n1 : Int)) := (blk_cell hblk 1).trans rfl
  have hk2 : w1.cell? ⟨w.heap.size, 2, none⟩ = some (.int .u16 (n2 : Int)) := (blk_cell hblk 2).trans rfl
  have hk3 : w1.cell? ⟨w.heap.size, 3, none⟩ = some (.int .u16 (n3 : Int)) := (blk_cell hblk 3).trans rfl
  have hk4 : w1.cell? ⟨w.heap.size, 4, none⟩ = some (.int .u16 (n4 : Int)) := (blk_cell hblk 4).trans rfl
  have hk5 : w1.cell? ⟨w.heap.size, 5, none⟩ = some (.int .u16 (n5 : Int)) := (blk_cell hblk 5).trans rfl
  have hk6 : w1.cell? ⟨w.heap.size, 6, none⟩ = some (.int .u16 (n6 : Int)) := (blk_cell hblk 6).trans rfl
  have hk7 : w1.cell? ⟨w.heap.size, 7, none⟩ = some (.int .u16 (n7 : Int)) := (blk_cell hblk 7).trans rfl
  clear hblk
  have hml : (l.map fun x : Nat => (x : Int)).length = 8 := by rw [List.length_map, HL.out]
  rw [hml] at hC1
  have HC1 := Lib.hid hC1
  have HML := Lib.hid hml
  have hTW : ∀ W, Below w.heap.size w W → UTabs W := fun W h => HT.out.below h
  have hex0 : ∀ W, Below w.heap.size w W → Kd.C (Kd.int .u16) W (some ⟨w.heap.size, 0, none⟩) 8 (l.map fun x : Nat => (x : Int)) → Calls Tryd.prog 36 #[.slice (some ⟨w.heap.size, 0, none⟩) 8 8] W fun e w' => e = .returned (.string ⟨(hexJoin l).toArray⟩) ∧ Below W.heap.size W w' := fun W hb hC => by
    have := HALL0.out W (hTW W hb)
    rw [HL.out] at this
    exact this hC
  clear hb1 hC1 hml HC0 HALL0 HW0
  cases z with
  | true =>
    have hx : tx = [58, 58] := HTX.out
    have HX := Lib.hid hx
    clear hx HTX
    go_wp2
    go_ret
    rw [HX.out]
    exact ⟨rfl, HB1.out⟩
  | false =>
    by_cases ht : t = 0
    · have hx : tx = hexJoin l := by rw [HTX.out, if_neg (by decide)]; exact if_pos ht
      have HX := Lib.hid hx
      have htz : ((t : Int) == 0) = true := by rw [ht]; rfl
      have HTT := Lib.hid ht
      have hcall := hex0 w1 HB1.out HC1.out
      clear hx ht HTX hex0
      go_wp2_with fail
      refine hcall.mono ?_
      rintro e w2 ⟨rfl, hb2⟩
      go_wp2
      go_ret
      rw [HX.out]
      exact ⟨rfl, HB1.out.trans (hb2.mono HB1.out.size)⟩
    · obtain ⟨hft, ht8⟩ : f + 2 ≤ t ∧ t ≤ 8 := HGA.out.resolve_left ht
      have hx : tx = hexJoin (l.take f) ++ [58, 58] ++ hexJoin (l.drop t) := by rw [HTX.out, if_neg (by decide)]; exact if_neg ht
      have HX := Lib.hid hx
      have htz : ((t : Int) == 0) = false := by rw [beq_eq_false_iff_ne]; omega
      have hex1 : ∀ W, Below w.heap.size w W → Kd.C (Kd.int .u16) W (some ⟨w.heap.size, 0, none⟩) 8 (l.map fun x : Nat => (x : Int)) → Calls Tryd.prog 36 #[.slice (some ⟨w.heap.size, 0, none⟩) f 8] W fun e w' => e = .returned (.string ⟨(hexJoin (l.take f)).toArray⟩) ∧ Below W.heap.size W w' := fun W hb hC => by
        have hlf : (l.take f).length = f := by rw [List.length_take, HL.out]; omega
        have := HALL1.out W (hTW W hb) (some ⟨w.heap.size, 0, none⟩) 8
        rw [hlf] at this
        refine this ?_ (by omega)
        have hC' : Kd.C (Kd.int .u16) W (some ⟨w.heap.size, 0, none⟩) (l.map fun x : Nat => (x : Int)).length (l.map fun x : Nat => (x : Int)) := by rw [HML.out]; exact hC
        have h2 := Kd.C_take (m := f) hC' (by rw [HML.out]; omega)
        rw [← List.map_take, List.length_map, hlf] at h2
        exact h2
      have hex2 : ∀ W, Below w.heap.size w W → Kd.C (Kd.int .u16) W (some ⟨w.heap.size, 0, none⟩) 8 (l.map fun x : Nat => (x : Int)) → Calls Tryd.prog 36 #[.slice (some ⟨w.heap.size, if t = 8 then 0 else t, none⟩) (8 - t) (8 - t)] W fun e w' => e = .returned (.string ⟨(hexJoin (l.drop t)).toArray⟩) ∧ Below W.heap.size W w' := fun W hb hC => by
        have hlf : (l.drop t).length = 8 - t := by rw [List.length_drop, HL.out]
        have := HALL2.out W (hTW W hb) (some ⟨w.heap.size, if t = 8 then 0 else t, none⟩) (8 - t)
        rw [hlf] at this
        refine this ?_ (Nat.le_refl _)
        have hC' : Kd.C (Kd.int .u16) W (some ⟨w.heap.size, 0, none⟩) (l.map fun x : Nat => (x : Int)).length (l.map fun x : Nat => (x : Int)) := by rw [HML.out]; exact hC
        have h2 := Kd.C_drop (m := t) (c := 8) hC' (by rw [HML.out]; omega) (by rw [HML.out]; omega)
        rw [← List.map_drop, List.length_map, hlf] at h2
        have ha : (if 8 = t then (some ⟨w.heap.size, 0, none⟩ : Option Addr) else (some ⟨w.heap.size, 0, none⟩ : Option Addr).map (·.add (t * (Kd.int .u16).sz))) = some ⟨w.heap.size, if t = 8 then 0 else t, none⟩ := by
          by_cases h8 : t = 8
          · rw [if_pos h8.symm, if_pos h8]
          · rw [if_neg (fun e => h8 e.symm), if_neg h8]
            show some ((⟨w.heap.size, 0, none⟩ : Addr).add (t * 1)) = _
            unfold Addr.add; split <;> simp_all
        rw [ha] at h2
        exact h2
      have hal : Tryd.prog.arrayLen 27 = 8 := by kernel_rfl
      have hsl1 : ∀ W, (Instr.sliceAt 27 (.pointer (some ⟨w.heap.size, 0, none⟩)) none (some (.int .i64 (f : Int))) none).run Tryd.prog W = .ok (.slice (some ⟨w.heap.size, 0, none⟩) f 8) W := fun W => by
        rw [run_sliceAt_array_h W 27 ⟨w.heap.size, 0, none⟩ (by kernel_rfl) .i64 (f : Int) (by omega) (by rw [hal]; omega)]
        go_simp
        try simp [Addr.add]
      have hsl2 : ∀ W, (Instr.sliceAt 27 (.pointer (some ⟨w.heap.size, 0, none⟩)) (some (.int .i64 (t : Int))) none none).run Tryd.prog W = .ok (.slice (some ⟨w.heap.size, if t = 8 then 0 else t, none⟩) (8 - t) (8 - t)) W := fun W => by
        rw [run_sliceAt_array_l W 27 ⟨w.heap.size, 0, none⟩ (by kernel_rfl) .i64 (t : Int) (by omega) (by rw [hal]; omega)]
        go_simp
        by_cases h8 : t = 8
        · rw [if_pos h8.symm, if_pos h8]
        · rw [if_neg (fun e => h8 e.symm), if_neg h8]
          try simp [Addr.add]
      have hj : ∀ m : List Nat, m.length ≤ 8 → (⟨(hexJoin m).toArray⟩ : ByteArray).size ≤ 40 := fun m hm => by
        have := join_len [58] (by simp) (m.map hexU) (fun x hx => by obtain ⟨y, _, rfl⟩ := List.mem_map.1 hx; exact hexU_len y)
        rw [List.length_map] at this
        rw [Lib.size_eq]
        show (Lib.join (m.map hexU) [58]).length ≤ _
        omega
      have hj1 := hj (l.take f) (by rw [List.length_take, HL.out]; omega)
      have hj2 := hj (l.drop t) (by rw [List.length_drop, HL.out]; omega)
      obtain ⟨x1, hx1⟩ : ∃ x1, x1 = (⟨(hexJoin (l.take f)).toArray⟩ : ByteArray) := ⟨_, rfl⟩
      obtain ⟨x2, hx2⟩ : ∃ x2, x2 = (⟨(hexJoin (l.drop t)).toArray⟩ : ByteArray) := ⟨_, rfl⟩
      rw [← hx1] at hj1 hex1
      rw [← hx2] at hj2 hex2
      have HX12 := Lib.hid (And.intro hx1 hx2)
      have q1 : (9223372036854775807 < x1.size + 2) = False := eq_false (by omega)
      have q2 : (9223372036854775807 < x1.size + 2 + x2.size) = False := eq_false (by omega)
      clear hx1 hx2 hj
      obtain ⟨ot, hot⟩ : ∃ o, o = (if t = 8 then 0 else t) := ⟨_, rfl⟩
      simp only [← hot] at hsl2 hex2
      clear hot
      have H1 := Lib.hid hex1
      have H2 := Lib.hid hex2
      clear hx hex0 hal ht HTX hex1 hex2
      go_wp2_with fail
      have hex1 := H1.out
      have hex2 := H2.out
      clear H1 H2
      obtain ⟨Wd, hWd⟩ : ∃ Wd, Wd = w1.drew := ⟨_, rfl⟩
      have HB0 := Aside0.mk (show Below w.heap.size w Wd from by rw [hWd]; exact HB1.out.trans ((Below.refl _ w1).drew.mono HB1.out.size))
      have HC0 := Aside0.mk (show Kd.C (Kd.int .u16) Wd (some ⟨w.heap.size, 0, none⟩) 8 (l.map fun x : Nat => (x : Int)) from by rw [hWd]; exact Kd.C_drew HC1.out)
      clear HB1 HC1
      have HB1 := HB0
      have HC1 := HC0
      refine start_ (n := 9) (S := fun w' => True) (ds := []) #[false, false, false, false, false, false, false, false, false] (by kernel_rfl) rfl rfl trivial (fun hHeld => ?_)
      rw [← hWd]
      clear hWd
      refine pure_ (i := 0) (N := some 17) (v := ?_) (a' := ?_) #[true, false, false, false, false, false, false, false, false] rfl rfl (by kernel_rfl) (fun _ _ _ h => h) (Or.inl ⟨by rfl, ?_⟩) ?_ ?_
      rotate_left
      · intro w'
        go_simp
        with_reducible rfl
      rotate_left
      · simp only [Act.put, List.setIfInBounds_toArray, List.set_cons_zero, List.set_cons_succ, i64_w, i32_w]
        rfl
      refine pure_ (i := 1) (N := some 18) (v := ?_) (a' := ?_) #[true, true, false, false, false, false, false, false, false] rfl rfl (by kernel_rfl) (fun _ _ _ h => h) (Or.inl ⟨by rfl, ?_⟩) ?_ ?_
      rotate_left
      · intro w'
        go_simp
        with_reducible rfl
      rotate_left
      · simp only [Act.put, List.setIfInBounds_toArray, List.set_cons_zero, List.set_cons_succ, i64_w, i32_w]
        rfl
      refine pure_ (i := 4) (N := some 21) (v := ?_) (a' := ?_) #[true, true, false, false, true, false, false, false, false] rfl rfl (by kernel_rfl) (fun _ _ _ h => h) (Or.inl ⟨by rfl, ?_⟩) ?_ ?_
      rotate_left
      · intro w'
        go_simp
        with_reducible rfl
      rotate_left
      · simp only [Act.put, List.setIfInBounds_toArray, List.set_cons_zero, List.set_cons_succ, i64_w, i32_w]
        rfl
      refine pure_ (i := 5) (N := some 22) (v := ?_) (a' := ?_) #[true, true, false, false, true, true, false, false, false] rfl rfl (by kernel_rfl) (fun _ _ _ h => h) (Or.inl ⟨by rfl, ?_⟩) ?_ ?_
      rotate_left
      · intro w'
        go_simp
        with_reducible rfl
      rotate_left
      · simp only [Act.put, List.setIfInBounds_toArray, List.set_cons_zero, List.set_cons_succ, i64_w, i32_w]
        rfl
      refine one_ (i := 2) (N := some 19) #[true, true, true, false, true, true, false, false, false] rfl rfl (by kernel_rfl) (by decide) (fun K hK => ?_)
      refine goes_ Tryd.func36 (by kernel_rfl) rfl #[.slice (some ⟨w.heap.size, 0, none⟩) f 8] (by rfl) rfl rfl (by simp only [List.map_toArray, List.map_cons, List.map_nil]; rfl) ?_
      with_reducible refine (hex1 _ HB1.out HC1.out).mono ?_
      rintro e w3 ⟨rfl, hb⟩
      refine ⟨_, rfl, ?_⟩
      have HB2 := Aside0.mk (HB1.out.trans (hb.mono HB1.out.size))
      have HC2 := Aside0.mk (Kd.C_below HC1.out hb)
      clear hb
      refine hK.out _ _ trivial (fun hHeld => ?_)
      clear hK K
      refine norm_ (a' := ?_) ?_ ?_
      rotate_left
      · show Act.put _ (some 19) _ = _
        simp only [Act.put, List.setIfInBounds_toArray, List.set_cons_zero, List.set_cons_succ, i64_w, i32_w]
        rfl
      refine pure_ (i := 3) (N := some 20) (v := ?_) (a' := ?_) #[true, true, true, true, true, true, false, false, false] rfl rfl (by kernel_rfl) (fun _ _ _ h => h) (Or.inl ⟨by rfl, ?_⟩) ?_ ?_
      rotate_left
      · intro w'
        go_simp
        with_reducible rfl
      rotate_left
      · simp only [Act.put, List.setIfInBounds_toArray, List.set_cons_zero, List.set_cons_succ, i64_w, i32_w]
        rfl
      refine one_ (i := 6) (N := some 23) #[true, true, true, true, true, true, true, false, false] rfl rfl (by kernel_rfl) (by decide) (fun K hK => ?_)
      refine goes_ Tryd.func36 (by kernel_rfl) rfl #[.slice (some ⟨w.heap.size, ot, none⟩) (8 - t) (8 - t)] (by rfl) rfl rfl (by simp only [List.map_toArray, List.map_cons, List.map_nil]; rfl) ?_
      with_reducible refine (hex2 _ HB2.out HC2.out).mono ?_
      rintro e w3 ⟨rfl, hb⟩
      refine ⟨_, rfl, ?_⟩
      have HB6 := Aside0.mk (HB2.out.trans (hb.mono HB2.out.size))
      have HC6 := Aside0.mk (Kd.C_below HC2.out hb)
      clear hb
      refine hK.out _ _ trivial (fun hHeld => ?_)
      clear hK K
      refine norm_ (a' := ?_) ?_ ?_
      rotate_left
      · show Act.put _ (some 23) _ = _
        simp only [Act.put, List.setIfInBounds_toArray, List.set_cons_zero, List.set_cons_succ, i64_w, i32_w]
        rfl
      refine pure_ (i := 7) (N := some 24) (v := ?_) (a' := ?_) #[true, true, true, true, true, true, true, true, false] rfl rfl (by kernel_rfl) (fun _ _ _ h => h) (Or.inl ⟨by rfl, ?_⟩) ?_ ?_
      rotate_left
      · intro w'
        go_simp
        with_reducible rfl
      rotate_left
      · simp only [Act.put, List.setIfInBounds_toArray, List.set_cons_zero, List.set_cons_succ, i64_w, i32_w]
        rfl
      refine pure_ (i := 8) (N := some 2) (v := ?_) (a' := ?_) #[true, true, true, true, true, true, true, true, true] rfl rfl (by kernel_rfl) (fun _ _ _ h => h) (Or.inl ⟨by rfl, ?_⟩) ?_ ?_
      rotate_left
      · intro w'
        go_simp
        with_reducible rfl
      rotate_left
      · simp only [Act.put, List.setIfInBounds_toArray, List.set_cons_zero, List.set_cons_succ, i64_w, i32_w]
        rfl
      refine done_ (by kernel_rfl) ?_
      go_wp2
      go_ret
      rw [HX.out]
      refine ⟨?_, HB6.out⟩
      rw [HX12.out.1, HX12.out.2]
      refine congrArg (fun x => Ending.returned (.string x)) ?_
      apply ByteArray.ext
      apply Array.toList_inj.1
      simp
def addr_TextV6.f (a0 a1 a2 a3 a4 a5 a6 a7 : Int) : Option ByteArray := if ∀ x ∈ ([a0, a1, a2, a3, a4, a5, a6, a7] : List Int), 0 ≤ x ∧ x < 65536 then some ⟨(txt6 ([a0, a1, a2, a3, a4, a5, a6, a7].map Int.toNat)).toArray⟩ else none
theorem addr_TextV6.calls (a0 a1 a2 a3 a4 a5 a6 a7 : Int) (r : ByteArray) (w : World) (hT : UTabs w) (h : addr_TextV6.f a0 a1 a2 a3 a4 a5 a6 a7 = some r) :
    Calls Tryd.prog 19 #[.agg #[.int .u16 a0, .int .u16 a1, .int .u16 a2, .int .u16 a3, .int .u16 a4, .int .u16 a5, .int .u16 a6, .int .u16 a7]] w fun e w' => e = .returned (.string r) ∧ Below w.heap.size w w' := by
  unfold addr_TextV6.f at h
  split at h
  · rename_i hs
    obtain rfl := Option.some.inj h
    obtain ⟨n0, rfl⟩ : ∃ n : Nat, a0 = n := ⟨a0.toNat, by have := hs a0 (by simp); omega⟩
    obtain ⟨n1, rfl⟩ : ∃ n : Nat, a1 = n := ⟨a1.toNat, by have := hs a1 (by simp); omega⟩
    obtain ⟨n2, rfl⟩ : ∃ n : Nat, a2 = n := ⟨a2.toNat, by have := hs a2 (by simp); omega⟩
    obtain ⟨n3, rfl⟩ : ∃ n : Nat, a3 = n := ⟨a3.toNat, by have := hs a3 (by simp); omega⟩
    obtain ⟨n4, rfl⟩ : ∃ n : Nat, a4 = n := ⟨a4.toNat, by have := hs a4 (by simp); omega⟩
    obtain ⟨n5, rfl⟩ : ∃ n : Nat, a5 = n := ⟨a5.toNat, by have := hs a5 (by simp); omega⟩
    obtain ⟨n6, rfl⟩ : ∃ n : Nat, a6 = n := ⟨a6.toNat, by have := hs a6 (by simp); omega⟩
    obtain ⟨n7, rfl⟩ : ∃ n : Nat, a7 = n := ⟨a7.toNat, by have := hs a7 (by simp); omega⟩
    exact textV6_calls _ _ _ _ _ _ _ _ (fun x hx => by
      have := hs (x : Int) (by
        simp only [List.mem_cons, List.not_mem_nil, or_false] at hx ⊢
        rcases hx with rfl | rfl | rfl | rfl | rfl | rfl | rfl | rfl <;> simp)
      omega) w hT
  · cases h
end Go.Proofs.YtkabhnbjjnjdhaaDoor.Q
