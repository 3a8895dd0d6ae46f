/- bastionref07.V6: how the document reads an address of eight pieces. -/
import Derived.Test.YtkabhnbjjnjdhaaDoorSB5
import Derived.Test.YtkabhnbjjnjdhaaDoorSAEnds
import Derived.Test.YtkabhnbjjnjdhaaDoorSAArr
import Derived.Test.YtkabhnbjjnjdhaaDoorSQbastionref07runsA
set_option linter.unusedSimpArgs false
set_option linter.unusedVariables false
namespace Go.Proofs.YtkabhnbjjnjdhaaDoor.Q
open Go.RowKit Go.Proofs.YtkabhnbjjnjdhaaDoorW.PrintWords Go.Proofs.YtkabhnbjjnjdhaaDoorW.PrintLast Go.Proofs.YtkabhnbjjnjdhaaDoorW.PrintMore Go.Proofs.YtkabhnbjjnjdhaaDoor.Ad
theorem intAt2 {w : World} {A : Option Addr} {n : Nat} {xs : List Int} (h : Kd.C (Kd.int .u16) w A n xs) (hn : 0 < n) : ∃ b o, A = some ⟨b, o, none⟩ ∧ b < w.heap.size ∧ ∀ i : Nat, i < n → w.cell? ⟨b, o + i, none⟩ = some (.int .u16 (xs.getD i 0)) := by
  obtain ⟨ad, cs, hA, hcl, hK, hcc⟩ := Kd.C_get h (0 : Int) 0 (by omega) (by omega)
  have hcells : ∀ i : Nat, i < n → w.cell? (ad.add i) = some (.int .u16 (xs.getD i 0)) := by
    intro i hi
    obtain ⟨ad', cs', hA', hcl', hK', hcc'⟩ := Kd.C_get h (0 : Int) (i : Int) (by omega) (by omega)
    obtain rfl : ad = ad' := Option.some.inj (hA.symm.trans hA')
    rw [Int.toNat_natCast] at hK' hcc'
    have hcs : cs' = [.int .u16 (xs.getD i 0)] := hK'
    subst hcs
    have := hcc' 0 _ rfl
    rw [show i * (Kd.int .u16).sz + 0 = i from by show i * 1 + 0 = i; omega] at this
    exact this
  obtain ⟨b, o, sp⟩ := ad
  have h0 := hcells 0 hn
  have hsp : sp = none := by
    cases sp with
    | none => rfl
    | some q =>
      exfalso
      unfold World.cell? at h0
      split at h0
      · exact absurd h0 (by simp [Addr.add])
      · cases h0
  subst hsp
  have e : ∀ i, (⟨b, o, none⟩ : Addr).add i = ⟨b, o + i, none⟩ := fun i => by unfold Addr.add; split <;> simp_all
  refine ⟨b, o, hA, World.block_lt_of_cell? w _ ((e 0) ▸ h0), fun i hi => ?_⟩
  rw [← e]
  exact hcells i hi
/-- a row of eight numbers that begins so, noughts behind -/
def blkI (w : World) (b : Nat) (ns : List Int) : Prop := w.heap[b]? = some (.cells ((ns ++ List.replicate (8 - ns.length) 0).map (Value.int .u16)).toArray 27 (0, 0))
theorem heapSetI {W : World} {b j : Nat} {cs : Array Value} {t : TypeId} {fr : Nat × Nat} (v : Value) (h : W.heap[b]? = some (.cells cs t fr)) : (W.setCell ⟨b, j, none⟩ v).heap[b]? = some (.cells (cs.setIfInBounds j v) t fr) := by
  obtain ⟨hlt, hk⟩ := Array.getElem?_eq_some_iff.1 h
  show (W.heap.modify b _)[b]? = _
  rw [Array.getElem?_eq_getElem (by rw [Array.size_modify]; exact hlt), Array.getElem_modify_self, hk]; simp
theorem blkI_set {w : World} {b : Nat} {ns : List Int} (h : blkI w b ns) (hn : ns.length < 8) (x : Int) : blkI (w.setCell ⟨b, ns.length, none⟩ (.int .u16 x)) b (ns ++ [x]) := by
  unfold blkI at h ⊢
  rw [heapSetI _ h]
  congr 2
  obtain ⟨q, hq⟩ : ∃ q, 8 - ns.length = q + 1 := ⟨8 - ns.length - 1, by omega⟩
  rw [hq, show 8 - (ns ++ [x]).length = q from by rw [List.length_append, List.length_singleton]; omega]
  apply Array.toList_inj.1
  rw [Array.toList_setIfInBounds]
  simp [List.replicate_succ]
theorem blkI_lit {w : World} {b : Nat} {ns : List Int} (h : blkI w b ns) (hn : ns.length = 8) : w.heap[b]? = some (.cells #[.int .u16 (ns.getD 0 0), .int .u16 (ns.getD 1 0), .int .u16 (ns.getD 2 0), .int .u16 (ns.getD 3 0), .int .u16 (ns.getD 4 0), .int .u16 (ns.getD 5 0), .int .u16 (ns.getD 6 0), .int .u16 (ns.getD 7 0)] 27 (0, 0)) := by
  unfold blkI at h
  rw [h]
  match ns, hn with
  | [a, b, c, d, e, f, g, i], _ => rfl
theorem grown_set (w : World) (b j : Nat) (v : Value) : w.grownBy (w.setCell ⟨b, j, none⟩ v) (some b) := ⟨rfl, rfl, rfl, by show w.heap.size ≤ (w.heap.modify b _).size; rw [Array.size_modify]; exact Nat.le_refl _, fun k _ hk => Below.heap_setCell w ⟨b, j, none⟩ v k (fun e => hk (by rw [e]))⟩
theorem blkI_cell {w : World} {b : Nat} {ns : List Int} (h : blkI w b ns) (hn : ns.length ≤ 8) {j : Nat} (hj : j < 8) : (∃ u, w.cell? ⟨b, j, none⟩ = some u) ∧ w.frozen? ⟨b, j, none⟩ = false := by
  unfold blkI at h
  constructor
  · have hs : j < (((ns ++ List.replicate (8 - ns.length) 0).map (Value.int .u16)).toArray).size := by simp; omega
    refine ⟨((ns ++ List.replicate (8 - ns.length) 0).map (Value.int .u16)).toArray[j], ?_⟩
    · unfold World.cell?
      rw [h]
      simp only [Option.isSome_none, Bool.false_eq_true, if_false]
      exact Array.getElem?_eq_getElem hs
  · unfold World.frozen?
    rw [h]
    simp
theorem R_block {α : Type} {d : Kd α} {e base : Nat} {w : World} {ok : Nat → Prop} {A : Option Addr} {n c : Nat} {xs : List α} (h : d.R e w base ok (.slice A n c) xs) : ∀ ad, A = some ad → base ≤ ad.block := by
  intro ad e'
  obtain ⟨_, inner, ho, _⟩ := h
  rcases ho.2 with ⟨he, _⟩ | ⟨g, cap, cur, he, hg, _⟩
  · injection he with h1; rw [e'] at h1; cases h1
  · injection he with h1; rw [e'] at h1; have := Option.some.inj h1; rw [this]; exact hg
theorem alloc2 (w : World) (o1 o2 : Obj) : ((w.alloc o1).alloc o2).heap[w.heap.size]? = some o1 ∧ ((w.alloc o1).alloc o2).heap[w.heap.size + 1]? = some o2 ∧ ((w.alloc o1).alloc o2).heap.size = w.heap.size + 2 := by
  have h : ((w.alloc o1).alloc o2).heap = (w.heap.push o1).push o2 := rfl
  rw [h]
  refine ⟨?_, ?_, ?_⟩
  · rw [Array.getElem?_push, if_neg (by simp), Array.getElem?_push, if_pos rfl]
  · rw [Array.getElem?_push, if_pos (by simp)]
  · simp
def v9 (ys : List Int) : Int × Int × Int × Int × Int × Int × Int × Int × Int := (ys.getD 0 0, ys.getD 1 0, ys.getD 2 0, ys.getD 3 0, ys.getD 4 0, ys.getD 5 0, ys.getD 6 0, ys.getD 7 0, 0)
def v9e : Int × Int × Int × Int × Int × Int × Int × Int × Int := (0, 0, 0, 0, 0, 0, 0, 0, 17)
theorem v9_inj {ys : List Int} {r1 r2 r3 r4 r5 r6 r7 r8 r9 : Int} (h : v9 ys = (r1, r2, r3, r4, r5, r6, r7, r8, r9)) : r1 = ys.getD 0 0 ∧ r2 = ys.getD 1 0 ∧ r3 = ys.getD 2 0 ∧ r4 = ys.getD 3 0 ∧ r5 = ys.getD 4 0 ∧ r6 = ys.getD 5 0 ∧ r7 = ys.getD 6 0 ∧ r8 = ys.getD 7 0 ∧ r9 = 0 := by
  unfold v9 at h
  simp only [Prod.mk.injEq] at h
  obtain ⟨rfl, rfl, rfl, rfl, rfl, rfl, rfl, rfl, rfl⟩ := h
  exact ⟨rfl, rfl, rfl, rfl, rfl, rfl, rfl, rfl, rfl⟩
theorem v9e_inj {r1 r2 r3 r4 r5 r6 r7 r8 r9 : Int} (h : v9e = (r1, r2, r3, r4, r5, r6, r7, r8, r9)) : r1 = 0 ∧ r2 = 0 ∧ r3 = 0 ∧ r4 = 0 ∧ r5 = 0 ∧ r6 = 0 ∧ r7 = 0 ∧ r8 = 0 ∧ r9 = 17 := by
  unfold v9e at h
  simp only [Prod.mk.injEq] at h
  obtain ⟨rfl, rfl, rfl, rfl, rfl, rfl, rfl, rfl, rfl⟩ := h
  exact ⟨rfl, rfl, rfl, rfl, rfl, rfl, rfl, rfl, rfl⟩
theorem take_snoc (xs : List Int) (j : Nat) (h : j < xs.length) : xs.take (j + 1) = xs.take j ++ [xs.getD j 0] := by
  rw [List.take_succ_eq_append_getElem h, List.getD_eq_getElem?_getD, List.getElem?_eq_getElem h]; rfl
theorem blkI_snoc {w : World} {b : Nat} {base xs : List Int} {j pos : Nat} (h : blkI w b (base ++ xs.take j)) (hj : j < xs.length) (hp : pos = base.length + j) (h8 : pos < 8) : blkI (w.setCell ⟨b, pos, none⟩ (.int .u16 (xs.getD j 0))) b (base ++ xs.take (j + 1)) := by
  have hl : (base ++ xs.take j).length = pos := by rw [List.length_append, List.length_take, hp]; omega
  have := blkI_set h (by omega) (xs.getD j 0)
  rw [hl] at this
  rw [take_snoc xs j hj, ← List.append_assoc]
  exact this
theorem blkI_pad {w : World} {b : Nat} {ns : List Int} (h : blkI w b ns) (z : Nat) (hz : ns.length + z ≤ 8) : blkI w b (ns ++ List.replicate z 0) := by
  unfold blkI at h ⊢
  rw [h, List.append_assoc, List.replicate_append_replicate, List.length_append, List.length_replicate, show z + (8 - (ns.length + z)) = 8 - ns.length from by omega]
theorem grown_trans {w w1 w2 : World} {row : Option Nat} (h1 : w.grownBy w1 row) (h2 : w1.grownBy w2 row) : w.grownBy w2 row := ⟨h2.1.trans h1.1, h2.2.trans h1.2, h2.3.trans h1.3, Nat.le_trans h1.size h2.size, fun k hk hr => (h2.block k (Nat.lt_of_lt_of_le hk h1.size) hr).trans (h1.block k hk hr)⟩
def bastionref07_V6.f (k : Nat) (a0 : ByteArray) : Option (Int × Int × Int × Int × Int × Int × Int × Int × Int) :=
  if a0.size ≤ 1000000000 then
    if Lib.index a0.data.toList [58, 58] = -1 then (bastionref07_runs.f k a0 true).bind fun p => some (if p.2 = true ∧ p.1.length = 8 then v9 p.1 else v9e)
    else (bastionref07_runs.f k (a0.extract 0 (Lib.index a0.data.toList [58, 58]).toNat) false).bind fun p => (bastionref07_runs.f k (a0.extract ((Lib.index a0.data.toList [58, 58]).toNat + 2) a0.size) true).bind fun q => if p.1.length + q.1.length ≤ 1000000000000 then some (if p.2 = true ∧ q.2 = true ∧ p.1.length + q.1.length ≤ 7 then v9 (p.1 ++ List.replicate (8 - p.1.length - q.1.length) 0 ++ q.1) else v9e) else none
  else none
/-- where the text stands still -/
theorem occ_eq (s : ByteArray) (i : Nat) (hi : i + 2 ≤ s.size) : ((s.extract i (i + 2)).toList == ([58, 58] : List UInt8)) = Lib.occAt s.data.toList [58, 58] i := by
  have hl : i + 2 ≤ s.data.toList.length := by rw [← Lib.size_eq]; exact hi
  rw [Go.ByteArray.toList_eq, Lib.extract_data, show i + 2 - i = 2 from by omega]
  unfold Lib.occAt
  obtain ⟨a, b, r, hd⟩ : ∃ a b r, s.data.toList.drop i = a :: b :: r := by
    have hh : (s.data.toList.drop i).length = s.data.toList.length - i := List.length_drop ..
    match h : s.data.toList.drop i with
    | [] => rw [h] at hh; simp at hh; omega
    | [x] => rw [h] at hh; simp at hh; omega
    | a :: b :: r => exact ⟨a, b, r, rfl⟩
  rw [hd]
  show (a == 58 && (b == 58 && true)) = (58 == a && (58 == b && true))
  rw [BEq.comm (a := a), BEq.comm (a := b)]
theorem occ_past (s : ByteArray) (j : Nat) (hj : s.size < j + 2) : Lib.occAt s.data.toList [58, 58] j = false := by
  have hl : s.data.toList.length < j + 2 := by rw [← Lib.size_eq]; exact hj
  unfold Lib.occAt
  have hh : (s.data.toList.drop j).length = s.data.toList.length - j := List.length_drop ..
  match h : s.data.toList.drop j with
  | [] => simp [List.isPrefixOf]
  | [x] => simp [List.isPrefixOf]
  | a :: b :: r => rw [h] at hh; simp at hh; omega
set_option maxRecDepth 100000 in
set_option maxHeartbeats 32000000 in
theorem bastionref07_V6.calls (k : Nat) (a0 : ByteArray) (r1 r2 r3 r4 r5 r6 r7 r8 r9 : Int) (w : World) (h : bastionref07_V6.f k a0 = some (r1, r2, r3, r4, r5, r6, r7, r8, r9)) :
    Calls Tryd.prog 13 #[.string a0] w fun e w' => e = .returned (.tuple #[.agg #[.int .u16 r1, .int .u16 r2, .int .u16 r3, .int .u16 r4, .int .u16 r5, .int .u16 r6, .int .u16 r7, .int .u16 r8], .int .i64 r9]) ∧ Below w.heap.size w w' := by
  have e29 : ∀ args w, (callFunc 29 args).run Tryd.prog w = .ok (.enter 29 args) w := enters_of Tryd.func29 (by kernel_rfl) rfl
  have hs : a0.size ≤ 1000000000 := by
    unfold bastionref07_V6.f at h
    split at h
    · assumption
    · cases h
  unfold bastionref07_V6.f at h
  obtain ⟨ha1, ha2, ha3⟩ := alloc2 w (.cells #[.int .u16 0, .int .u16 0, .int .u16 0, .int .u16 0, .int .u16 0, .int .u16 0, .int .u16 0, .int .u16 0] 27) (.cells #[.int .u16 0, .int .u16 0, .int .u16 0, .int .u16 0, .int .u16 0, .int .u16 0, .int .u16 0, .int .u16 0] 27)
  have hb0 : Below w.heap.size w ((w.alloc (.cells #[.int .u16 0, .int .u16 0, .int .u16 0, .int .u16 0, .int .u16 0, .int .u16 0, .int .u16 0, .int .u16 0] 27)).alloc (.cells #[.int .u16 0, .int .u16 0, .int .u16 0, .int .u16 0, .int .u16 0, .int .u16 0, .int .u16 0, .int .u16 0] 27)) := ((Below.refl _ w).alloc (Nat.le_refl _) _).alloc (by simp) _
  have HA := Lib.hid (And.intro ha1 (And.intro ha2 ha3))
  have HB0 := Lib.hid hb0
  have HF := Lib.hid h
  obtain ⟨ix, hix⟩ : ∃ ix, ix = Lib.index a0.data.toList [58, 58] := ⟨_, rfl⟩
  have HIX := Lib.hid hix
  obtain ⟨n, hn⟩ : ∃ n, n = a0.size := ⟨_, rfl⟩
  have HN := Lib.hid hn
  rw [← hn] at hs
  clear ha1 ha2 ha3 hb0 h hix hn
  go_enter Tryd.func13, Tryd.ntmps13
  go_wp2
  obtain ⟨W, hW⟩ : ∃ W, W = ((w.alloc (.cells #[.int .u16 0, .int .u16 0, .int .u16 0, .int .u16 0, .int .u16 0, .int .u16 0, .int .u16 0, .int .u16 0] 27)).alloc (.cells #[.int .u16 0, .int .u16 0, .int .u16 0, .int .u16 0, .int .u16 0, .int .u16 0, .int .u16 0, .int .u16 0] 27)) := ⟨_, rfl⟩
  rw [← hW] at HA HB0 ⊢
  clear hW
  go_loopg [5, 6] n (fun gg s5 s6 wr => ∃ (i : Nat) (at_ : Int), s6 = .int .i64 i ∧ s5 = .int .i64 at_ ∧ wr = W ∧ Hid ((i ≤ n ∧ n - i ≤ gg) ∧ ((at_ = -1 ∧ ∀ j, j < i → Lib.occAt a0.data.toList [58, 58] j = false) ∨ (0 ≤ at_ ∧ at_ + 2 ≤ n ∧ ix = at_))))
  case atStart => exact ⟨0, -1, rfl, rfl, rfl, Lib.hid ⟨⟨by omega, by omega⟩, .inl ⟨rfl, fun j hj => absurd hj (Nat.not_lt_zero _)⟩⟩⟩
  case round =>
    obtain ⟨i, at_, rfl, rfl, rfl, HI⟩ := hrel
    have hin := HI.out.1
    have hsz : (a0.size : Int) = n := by rw [← HN.out]
    have hsz2 : a0.size = n := HN.out.symm
    by_cases hgo : i + 1 < n ∧ at_ = -1
    · obtain ⟨hi1, rfl⟩ := hgo
      have hi1z : (i : Int) + 1 < n := by omega
      have hi2z : (i : Int) + 2 ≤ n := by omega
      have hi3z : (i : Int) ≤ (i : Int) + 2 := by omega
      have hocc := occ_eq a0 i (by rw [← HN.out]; omega)
      have hno : ∀ j, j < i → Lib.occAt a0.data.toList [58, 58] j = false := by
        rcases HI.out.2 with h | h
        · exact h.2
        · omega
      have HNO := Lib.hid hno
      clear hno
      by_cases hoc : Lib.occAt a0.data.toList [58, 58] i = true
      · have HOC := Lib.hid hoc
        rw [hoc] at hocc
        clear hoc
        go_wp2
        go_roundg (n - (i + 1))
        case measure => omega
        case rel =>
          refine ⟨i + 1, i, by go_num, rfl, rfl, Lib.hid ⟨⟨by omega, by omega⟩, .inr ⟨by omega, by omega, ?_⟩⟩⟩
          rw [HIX.out]
          exact Lib.index_first (by rw [← Lib.size_eq]; omega) HOC.out HNO.out
      · rw [Bool.not_eq_true] at hoc
        have HOC := Lib.hid hoc
        rw [hoc] at hocc
        clear hoc
        go_wp2
        go_roundg (n - (i + 1))
        case measure => omega
        case rel =>
          refine ⟨i + 1, -1, by go_num, rfl, rfl, Lib.hid ⟨⟨by omega, by omega⟩, .inl ⟨rfl, fun j hj => ?_⟩⟩⟩
          by_cases h : j = i
          · rw [h]; exact HOC.out
          · exact HNO.out j (by omega)
    · have hend : (¬ i + 1 < n ∧ at_ = -1 ∧ ix = -1) ∨ (0 ≤ at_ ∧ at_ + 2 ≤ n ∧ ix = at_) := by
        rcases HI.out.2 with h | h
        · have h1 : ¬ i + 1 < n := fun h' => hgo ⟨h', h.1⟩
          refine .inl ⟨h1, h.1, ?_⟩
          rw [HIX.out]
          refine Lib.index_none (fun j hj => ?_)
          by_cases h2 : j < i
          · exact h.2 j h2
          · exact occ_past a0 j (by omega)
        · exact .inr h
      clear HI hgo
      rcases hend with ⟨hi1, rfl, hix⟩ | ⟨hat, hatn, hix⟩
      · have hi1z : ¬ (i : Int) + 1 < n := by omega
        have hf := HF.out
        rw [if_pos (by rw [← HN.out]; exact hs), ← HIX.out, if_pos hix] at hf
        clear HF
        obtain ⟨⟨l, ok⟩, hp, hf⟩ := Option.bind_eq_some_iff.mp hf
        have hcall := fun W => bastionref07_runs.calls k a0 true l ok W hp
        have HF := Lib.hid hf
        clear hf hp
        go_wp2_with fail
        refine (hcall _).mono ?_
        rintro e w1 ⟨v1, rfl, hR1, hb1⟩
        have HS1 := Lib.hid (show Below w.heap.size w w1 ∧ w1.heap[w.heap.size]? = some (.cells #[.int .u16 0, .int .u16 0, .int .u16 0, .int .u16 0, .int .u16 0, .int .u16 0, .int .u16 0, .int .u16 0] 27 (0, 0)) ∧ blkI w1 (w.heap.size + 1) [] ∧ w.heap.size + 2 ≤ w1.heap.size from by
          have hz := HA.out.2.2
          exact ⟨HB0.out.trans (hb1.mono (by omega)), (hb1.block _ (by omega)).trans HA.out.1, (hb1.block _ (by omega)).trans HA.out.2.1, by have := hb1.size; omega⟩)
        obtain ⟨A1, c1, rfl, hle1, hC1⟩ := Kd.R_reads hR1
        have hfar := R_block hR1
        obtain ⟨np, hnp⟩ : ∃ np, np = l.length := ⟨_, rfl⟩
        have hcell1 : 0 < np → ∃ b o, A1 = some ⟨b, o, none⟩ ∧ w.heap.size + 2 ≤ b ∧ b < w1.heap.size ∧ ∀ i : Nat, i < np → w1.cell? ⟨b, o + i, none⟩ = some (.int .u16 (l.getD i 0)) := fun h => by
          obtain ⟨b, o, e1, e2, e3⟩ := intAt2 (hnp ▸ hC1) h
          exact ⟨b, o, e1, by have := hfar _ e1; rw [HA.out.2.2] at this; exact this, e2, e3⟩
        have HCELL := Lib.hid hcell1
        rw [← hnp] at hle1 ⊢
        have HNP := Lib.hid hnp
        clear hcell1 hfar hC1 hR1 hb1 hnp hcall HA HB0
        cases ok with
        | false =>
          have hq := HF.out
          rw [if_neg (by simp)] at hq
          obtain ⟨rfl, rfl, rfl, rfl, rfl, rfl, rfl, rfl, rfl⟩ := v9e_inj (Option.some.inj hq)
          clear hq HF
          go_upto_region 11 with (fail)
          have HXX := Lib.hid (show w1.heap[w.heap.size + 1]? = some (.cells #[.int .u16 0, .int .u16 0, .int .u16 0, .int .u16 0, .int .u16 0, .int .u16 0, .int .u16 0, .int .u16 0] 27 (0, 0)) from HS1.out.2.2.1)
          have HRR := Lib.hid HS1.out.2.1
          have HBB := Lib.hid HS1.out.1
          refine acopy (fn := Tryd.f13) rfl HXX.out HRR.out (by omega) HBB.out (Nat.le_refl _) rfl rfl (show 3 < 51 by decide) (show 51 < 121 by decide) ?_
          intro a' w' hd hres hb
          try dsimp only [Exit.then, Exit.inBlock]
          refine (by assumption : ∀ (a : Act) (w : World), Code.wp _ Code.ret _ a w → _) _ _ ?_
          refine hwp_ret ?_
          try dsimp only [Exit.then, Exit.inBlock]
          exact bodyPost_ret hres hd ⟨rfl, hb⟩
        | true =>
          by_cases h8 : np = 8
          · have h8z : ((np : Int) == 8) = true := by rw [h8]; rfl
            have h8y : ((np : Int) != 8) = false := by rw [h8]; rfl
            have hq := HF.out
            rw [if_pos ⟨rfl, by rw [← HNP.out]; exact h8⟩] at hq
            obtain ⟨rfl, rfl, rfl, rfl, rfl, rfl, rfl, rfl, rfl⟩ := v9_inj (Option.some.inj hq)
            have H8 := Lib.hid h8
            clear hq HF h8
            go_wp2
            go_loopg [54] np (fun gg sx wr => ∃ j : Nat, sx = .int .i64 j ∧ Hid ((j ≤ np ∧ np - j ≤ gg) ∧ blkI wr (w.heap.size + 1) (([] : List Int) ++ (l).take j) ∧ w1.grownBy wr (some (w.heap.size + 1))))
            case atStart => exact ⟨0, rfl, Lib.hid ⟨⟨by omega, by omega⟩, HS1.out.2.2.1, World.grownBy.refl _ _⟩⟩
            case round =>
              obtain ⟨j, rfl, HI⟩ := hrel
              have hj := HI.out.1
              by_cases hlt : j < np
              · have hjz : (j : Int) < np := by omega
                obtain ⟨b, o, hA, hge, hbl, hcl⟩ := HCELL.out (by omega)
                have hcx : wr.cell? ⟨b, o + j, none⟩ = some (.int .u16 ((l).getD j 0)) := by rw [World.cell?_of_block (w := w1) (HI.out.2.2.block b hbl (fun e => by have := Option.some.inj e; omega))]; exact hcl j hlt
                have hpos8 : j < 8 := by have := H8.out; omega
                obtain ⟨⟨u, hu⟩, hfz⟩ := blkI_cell HI.out.2.1 (by rw [List.length_append, List.length_take]; simp; omega) hpos8
                obtain ⟨x, hx⟩ : ∃ x, x = (l).getD j 0 := ⟨_, rfl⟩
                rw [← hx] at hcx
                have HX := Lib.hid hx
                subst hA
                clear hx hge hbl hcl
                go_wp2
                go_roundg (np - (j + 1))
                case measure => omega
                case rel =>
                  refine ⟨j + 1, by go_num, Lib.hid ⟨⟨by omega, by omega⟩, ?_, ?_⟩⟩
                  · rw [HX.out]
                    exact blkI_snoc HI.out.2.1 (by rw [← HNP.out]; exact hlt) (by rw [List.length_nil]; omega) hpos8
                  · exact grown_trans HI.out.2.2 (grown_set _ _ _ _)
              · obtain rfl : np = j := by omega
                have HXX := Lib.hid (blkI_lit (by have := HI.out.2.1; rw [List.nil_append, List.take_of_length_le (by rw [← HNP.out]; omega)] at this; exact this) (by rw [← HNP.out]; exact H8.out))
                have HRR := Lib.hid ((HI.out.2.2.block _ (by have := HS1.out.2.2.2; omega) (fun e => by have := Option.some.inj e; omega)).trans HS1.out.2.1)
                have HBB := Lib.hid (HS1.out.1.grown HI.out.2.2 (by have := HS1.out.2.2.2; omega) (fun k e => by have := Option.some.inj e; omega))
                go_upto_region 17 with (fail)
                refine acopy (fn := Tryd.f13) rfl HXX.out HRR.out (by omega) HBB.out (Nat.le_refl _) rfl rfl (show 3 < 63 by decide) (show 63 < 121 by decide) ?_
                intro a' w' hd hres hb
                try dsimp only [Exit.then, Exit.inBlock]
                refine (by assumption : ∀ (a : Act) (w : World), Code.wp _ Code.ret _ a w → _) _ _ ?_
                refine hwp_ret ?_
                try dsimp only [Exit.then, Exit.inBlock]
                exact bodyPost_ret hres hd ⟨rfl, hb⟩
          · have h8z : ((np : Int) == 8) = false := by rw [beq_eq_false_iff_ne]; omega
            have h8y : ((np : Int) != 8) = true := by rw [bne_iff_ne]; omega
            have hq := HF.out
            rw [if_neg (fun h => h8 (by rw [HNP.out]; exact h.2))] at hq
            obtain ⟨rfl, rfl, rfl, rfl, rfl, rfl, rfl, rfl, rfl⟩ := v9e_inj (Option.some.inj hq)
            clear hq HF
            go_upto_region 11 with (fail)
            have HXX := Lib.hid (show w1.heap[w.heap.size + 1]? = some (.cells #[.int .u16 0, .int .u16 0, .int .u16 0, .int .u16 0, .int .u16 0, .int .u16 0, .int .u16 0, .int .u16 0] 27 (0, 0)) from HS1.out.2.2.1)
            have HRR := Lib.hid HS1.out.2.1
            have HBB := Lib.hid HS1.out.1
            refine acopy (fn := Tryd.f13) rfl HXX.out HRR.out (by omega) HBB.out (Nat.le_refl _) rfl rfl (show 3 < 51 by decide) (show 51 < 121 by decide) ?_
            intro a' w' hd hres hb
            try dsimp only [Exit.then, Exit.inBlock]
            refine (by assumption : ∀ (a : Act) (w : World), Code.wp _ Code.ret _ a w → _) _ _ ?_
            refine hwp_ret ?_
            try dsimp only [Exit.then, Exit.inBlock]
            exact bodyPost_ret hres hd ⟨rfl, hb⟩
      · obtain ⟨q, rfl⟩ : ∃ q : Nat, at_ = q := ⟨at_.toNat, by omega⟩
        have hqn : q + 2 ≤ n := by omega
        have hqz : (q : Int) + 2 ≤ n := by omega
        have hq1z : (q : Int) ≤ n := by omega
        have hf := HF.out
        rw [if_pos (by rw [← HN.out]; exact hs), ← HIX.out, if_neg (by rw [hix]; omega), hix, Int.toNat_natCast] at hf
        clear HF
        obtain ⟨⟨l, ok⟩, hp, hf⟩ := Option.bind_eq_some_iff.mp hf
        obtain ⟨⟨m, ok2⟩, hp2, hf⟩ := Option.bind_eq_some_iff.mp hf
        have hlm : l.length + m.length ≤ 1000000000000 := by
          split at hf
          · assumption
          · cases hf
        rw [if_pos hlm] at hf
        have hcall := fun W => bastionref07_runs.calls k _ false l ok W hp
        have hcall2 := fun W => bastionref07_runs.calls k _ true m ok2 W hp2
        rw [hsz2] at hcall2
        have HF := Lib.hid hf
        clear hf hp hp2
        by_cases hi1 : i + 1 < n
        · have hi1z : (i : Int) + 1 < n := by omega
          go_wp2_with fail
          refine (hcall _).mono ?_
          rintro e w1 ⟨v1, rfl, hR1, hb1⟩
          have HS1 := Lib.hid (show Below w.heap.size w w1 ∧ w1.heap[w.heap.size]? = some (.cells #[.int .u16 0, .int .u16 0, .int .u16 0, .int .u16 0, .int .u16 0, .int .u16 0, .int .u16 0, .int .u16 0] 27 (0, 0)) ∧ blkI w1 (w.heap.size + 1) [] ∧ w.heap.size + 2 ≤ w1.heap.size from by
            have hz := HA.out.2.2
            exact ⟨HB0.out.trans (hb1.mono (by omega)), (hb1.block _ (by omega)).trans HA.out.1, (hb1.block _ (by omega)).trans HA.out.2.1, by have := hb1.size; omega⟩)
          have HR1 := Lib.hid (show Kd.R (Kd.int .u16) 26 w1 (w.heap.size + 2) (fun _ => True) v1 l from by rw [← HA.out.2.2]; exact hR1)
          clear hb1 hcall HA HB0 hR1
          go_wp2_with fail
          refine (hcall2 _).mono ?_
          rintro e w2 ⟨v2, rfl, hR2, hb2⟩
          have HS2 := Lib.hid (show Below w.heap.size w w2 ∧ w2.heap[w.heap.size]? = some (.cells #[.int .u16 0, .int .u16 0, .int .u16 0, .int .u16 0, .int .u16 0, .int .u16 0, .int .u16 0, .int .u16 0] 27 (0, 0)) ∧ blkI w2 (w.heap.size + 1) [] ∧ w.heap.size + 2 ≤ w2.heap.size from by
            have h1 := HS1.out
            exact ⟨h1.1.trans (hb2.mono (by omega)), (hb2.block _ (by omega)).trans h1.2.1, (hb2.block _ (by omega)).trans h1.2.2.1, by have := hb2.size; omega⟩)
          have hR1' := Kd.R_below HR1.out hb2
          have hR2' := Kd.R_lower hR2 HS1.out.2.2.2
          obtain ⟨A1, c1, rfl, hle1, hC1⟩ := Kd.R_reads hR1'
          obtain ⟨A2, c2, rfl, hle2, hC2⟩ := Kd.R_reads hR2'
          have hfar1 := R_block hR1'
          have hfar2 := R_block hR2'
          obtain ⟨np, hnp⟩ : ∃ np, np = l.length := ⟨_, rfl⟩
          obtain ⟨nq, hnq⟩ : ∃ nq, nq = m.length := ⟨_, rfl⟩
          have hcell1 : 0 < np → ∃ b o, A1 = some ⟨b, o, none⟩ ∧ w.heap.size + 2 ≤ b ∧ b < w2.heap.size ∧ ∀ i : Nat, i < np → w2.cell? ⟨b, o + i, none⟩ = some (.int .u16 (l.getD i 0)) := fun h => by
            obtain ⟨b, o, e1, e2, e3⟩ := intAt2 (hnp ▸ hC1) h
            exact ⟨b, o, e1, hfar1 _ e1, e2, e3⟩
          have hcell2 : 0 < nq → ∃ b o, A2 = some ⟨b, o, none⟩ ∧ w.heap.size + 2 ≤ b ∧ b < w2.heap.size ∧ ∀ i : Nat, i < nq → w2.cell? ⟨b, o + i, none⟩ = some (.int .u16 (m.getD i 0)) := fun h => by
            obtain ⟨b, o, e1, e2, e3⟩ := intAt2 (hnq ▸ hC2) h
            exact ⟨b, o, e1, hfar2 _ e1, e2, e3⟩
          have HCELL := Lib.hid hcell1
          have HCELL2 := Lib.hid hcell2
          rw [← hnp] at hle1 hlm ⊢
          rw [← hnq] at hle2 hlm ⊢
          have HNP := Lib.hid hnp
          have HNQ := Lib.hid hnq
          clear hcell1 hcell2 hfar1 hfar2 hC1 hC2 hR1' hR2' hR2 HR1 hb2 hnp hnq hcall2 HS1
          cases ok with
          | false =>
            have hq := HF.out
            rw [if_neg (by simp)] at hq
            obtain ⟨rfl, rfl, rfl, rfl, rfl, rfl, rfl, rfl, rfl⟩ := v9e_inj (Option.some.inj hq)
            clear hq HF
            go_upto_region 21 with (fail)
            have HXX := Lib.hid (show w2.heap[w.heap.size + 1]? = some (.cells #[.int .u16 0, .int .u16 0, .int .u16 0, .int .u16 0, .int .u16 0, .int .u16 0, .int .u16 0, .int .u16 0] 27 (0, 0)) from HS2.out.2.2.1)
            have HRR := Lib.hid HS2.out.2.1
            have HBB := Lib.hid HS2.out.1
            refine acopy (fn := Tryd.f13) rfl HXX.out HRR.out (by omega) HBB.out (Nat.le_refl _) rfl rfl (show 3 < 93 by decide) (show 93 < 121 by decide) ?_
            intro a' w' hd hres hb
            try dsimp only [Exit.then, Exit.inBlock]
            refine (by assumption : ∀ (a : Act) (w : World), Code.wp _ Code.ret _ a w → _) _ _ ?_
            refine hwp_ret ?_
            try dsimp only [Exit.then, Exit.inBlock]
            exact bodyPost_ret hres hd ⟨rfl, hb⟩
          | true =>
            cases ok2 with
            | false =>
              have hq := HF.out
              rw [if_neg (by simp)] at hq
              obtain ⟨rfl, rfl, rfl, rfl, rfl, rfl, rfl, rfl, rfl⟩ := v9e_inj (Option.some.inj hq)
              clear hq HF
              go_upto_region 21 with (fail)
              have HXX := Lib.hid (show w2.heap[w.heap.size + 1]? = some (.cells #[.int .u16 0, .int .u16 0, .int .u16 0, .int .u16 0, .int .u16 0, .int .u16 0, .int .u16 0, .int .u16 0] 27 (0, 0)) from HS2.out.2.2.1)
              have HRR := Lib.hid HS2.out.2.1
              have HBB := Lib.hid HS2.out.1
              refine acopy (fn := Tryd.f13) rfl HXX.out HRR.out (by omega) HBB.out (Nat.le_refl _) rfl rfl (show 3 < 93 by decide) (show 93 < 121 by decide) ?_
              intro a' w' hd hres hb
              try dsimp only [Exit.then, Exit.inBlock]
              refine (by assumption : ∀ (a : Act) (w : World), Code.wp _ Code.ret _ a w → _) _ _ ?_
              refine hwp_ret ?_
              try dsimp only [Exit.then, Exit.inBlock]
              exact bodyPost_ret hres hd ⟨rfl, hb⟩
            | true =>
              by_cases h7 : np + nq ≤ 7
              · have h7z : ¬ (7 : Int) < (np : Int) + (nq : Int) := by omega
                have hq := HF.out
                rw [if_pos ⟨rfl, rfl, by rw [← HNP.out, ← HNQ.out]; exact h7⟩] at hq
                obtain ⟨ys, hys⟩ : ∃ ys, ys = l ++ List.replicate (8 - l.length - m.length) 0 ++ m := ⟨_, rfl⟩
                rw [← hys] at hq
                obtain ⟨rfl, rfl, rfl, rfl, rfl, rfl, rfl, rfl, rfl⟩ := v9_inj (Option.some.inj hq)
                have H7 := Lib.hid h7
                have HYS := Lib.hid hys
                clear hq HF h7 hys
                go_wp2
                go_loopg [96] np (fun gg sx wr => ∃ j : Nat, sx = .int .i64 j ∧ Hid ((j ≤ np ∧ np - j ≤ gg) ∧ blkI wr (w.heap.size + 1) (([] : List Int) ++ (l).take j) ∧ w2.grownBy wr (some (w.heap.size + 1))))
                case atStart => exact ⟨0, rfl, Lib.hid ⟨⟨by omega, by omega⟩, HS2.out.2.2.1, World.grownBy.refl _ _⟩⟩
                case round =>
                  obtain ⟨j, rfl, HI⟩ := hrel
                  have hj := HI.out.1
                  by_cases hlt : j < np
                  · have hjz : (j : Int) < np := by omega
                    obtain ⟨b, o, hA, hge, hbl, hcl⟩ := HCELL.out (by omega)
                    have hcx : wr.cell? ⟨b, o + j, none⟩ = some (.int .u16 ((l).getD j 0)) := by rw [World.cell?_of_block (w := w2) (HI.out.2.2.block b hbl (fun e => by have := Option.some.inj e; omega))]; exact hcl j hlt
                    have hpos8 : j < 8 := by have := H7.out; omega
                    obtain ⟨⟨u, hu⟩, hfz⟩ := blkI_cell HI.out.2.1 (by rw [List.length_append, List.length_take]; simp; omega) hpos8
                    obtain ⟨x, hx⟩ : ∃ x, x = (l).getD j 0 := ⟨_, rfl⟩
                    rw [← hx] at hcx
                    have HX := Lib.hid hx
                    subst hA
                    clear hx hge hbl hcl
                    go_wp2
                    go_roundg (np - (j + 1))
                    case measure => omega
                    case rel =>
                      refine ⟨j + 1, by go_num, Lib.hid ⟨⟨by omega, by omega⟩, ?_, ?_⟩⟩
                      · rw [HX.out]
                        exact blkI_snoc HI.out.2.1 (by rw [← HNP.out]; exact hlt) (by rw [List.length_nil]; omega) hpos8
                      · exact grown_trans HI.out.2.2 (grown_set _ _ _ _)
                  · obtain rfl : np = j := by omega
                    have HW := Lib.hid (show (np ≤ 8 ∧ nq ≤ 8) ∧ blkI wr (w.heap.size + 1) (l ++ List.replicate (8 - np - nq) 0) ∧ (l ++ List.replicate (8 - np - nq) 0).length = 8 - nq ∧ w2.grownBy wr (some (w.heap.size + 1)) from by
                      have h7 := H7.out
                      have hnp := HNP.out
                      have hb := HI.out.2.1
                      rw [List.nil_append, List.take_of_length_le (by omega)] at hb
                      refine ⟨⟨by omega, by omega⟩, blkI_pad hb _ (by omega), ?_, HI.out.2.2⟩
                      rw [List.length_append, List.length_replicate, ← hnp]; omega)
                    have HCELL3 := Lib.hid (show 0 < nq → ∃ b o, A2 = some ⟨b, o, none⟩ ∧ w.heap.size + 2 ≤ b ∧ b < wr.heap.size ∧ ∀ i : Nat, i < nq → wr.cell? ⟨b, o + i, none⟩ = some (.int .u16 (m.getD i 0)) from fun h => by
                      obtain ⟨b, o, hA, hge, hbl, hcl⟩ := HCELL2.out h
                      exact ⟨b, o, hA, hge, Nat.lt_of_lt_of_le hbl HW.out.2.2.2.size, fun i hi => by rw [World.cell?_of_block (w := w2) (HW.out.2.2.2.block b hbl (fun e => by have := Option.some.inj e; omega))]; exact hcl i hi⟩)
                    clear HI HCELL HCELL2 hj hlt
                    obtain ⟨wo, hwo⟩ : ∃ wo, wo = wr := ⟨_, rfl⟩
                    subst hwo
                    go_wp2
                    go_loopg [107] nq (fun gg sx wr => ∃ j : Nat, sx = .int .i64 j ∧ Hid ((j ≤ nq ∧ nq - j ≤ gg) ∧ blkI wr (w.heap.size + 1) ((l ++ List.replicate (8 - np - nq) 0) ++ (m).take j) ∧ wo.grownBy wr (some (w.heap.size + 1))))
                    case atStart => exact ⟨0, rfl, Lib.hid ⟨⟨by omega, by omega⟩, (by rw [List.take_zero, List.append_nil]; exact HW.out.2.1), World.grownBy.refl _ _⟩⟩
                    case round =>
                      obtain ⟨j, rfl, HI⟩ := hrel
                      have hj := HI.out.1
                      by_cases hlt : j < nq
                      · have hjz : (j : Int) < nq := by omega
                        obtain ⟨b, o, hA, hge, hbl, hcl⟩ := HCELL3.out (by omega)
                        have hcx : wr.cell? ⟨b, o + j, none⟩ = some (.int .u16 ((m).getD j 0)) := by rw [World.cell?_of_block (w := wo) (HI.out.2.2.block b hbl (fun e => by have := Option.some.inj e; omega))]; exact hcl j hlt
                        have hpos8 : (8 - nq + j) < 8 := by have := HW.out.1; omega
                        obtain ⟨⟨u, hu⟩, hfz⟩ := blkI_cell HI.out.2.1 (by rw [List.length_append, List.length_take]; have h1 := HW.out.2.2.1; have h2 := HW.out.1; have h3 := HNQ.out; rw [h1]; omega) hpos8
                        obtain ⟨x, hx⟩ : ∃ x, x = (m).getD j 0 := ⟨_, rfl⟩
                        rw [← hx] at hcx
                        have HX := Lib.hid hx
                        subst hA
                        clear hx hge hbl hcl
                        go_wp2
                        go_roundg (nq - (j + 1))
                        case measure => omega
                        case rel =>
                          refine ⟨j + 1, by go_num, Lib.hid ⟨⟨by omega, by omega⟩, ?_, ?_⟩⟩
                          · rw [HX.out]
                            exact blkI_snoc HI.out.2.1 (by rw [← HNQ.out]; exact hlt) (by rw [HW.out.2.2.1]) hpos8
                          · exact grown_trans HI.out.2.2 (grown_set _ _ _ _)
                      · obtain rfl : nq = j := by omega
                        have hfin : blkI wr (w.heap.size + 1) ys ∧ ys.length = 8 := by
                          have h7 := H7.out
                          have hnq := HNQ.out
                          have hnp := HNP.out
                          have hb := HI.out.2.1
                          rw [List.take_of_length_le (by omega)] at hb
                          rw [HYS.out, ← hnp, ← hnq]
                          refine ⟨hb, ?_⟩
                          rw [List.length_append, HW.out.2.2.1]; omega
                        have HXX := Lib.hid (blkI_lit hfin.1 hfin.2)
                        have hw := HW.out.2.2.2
                        have hsw := hw.size
                        have HRR := Lib.hid ((HI.out.2.2.block _ (by have := HS2.out.2.2.2; omega) (fun e => by have := Option.some.inj e; omega)).trans ((hw.block _ (by have := HS2.out.2.2.2; omega) (fun e => by have := Option.some.inj e; omega)).trans HS2.out.2.1))
                        have HBB := Lib.hid ((HS2.out.1.grown hw (by have := HS2.out.2.2.2; omega) (fun k e => by have := Option.some.inj e; omega)).grown HI.out.2.2 (by have := HS2.out.2.2.2; omega) (fun k e => by have := Option.some.inj e; omega))
                        clear hfin hw hsw
                        go_upto_region 32 with (fail)
                        refine acopy (fn := Tryd.f13) rfl HXX.out HRR.out (by omega) HBB.out (Nat.le_refl _) rfl rfl (show 3 < 120 by decide) (show 120 < 121 by decide) ?_
                        intro a' w' hd hres hb
                        try dsimp only [Exit.then, Exit.inBlock]
                        refine (by assumption : ∀ (a : Act) (w : World), Code.wp _ Code.ret _ a w → _) _ _ ?_
                        refine hwp_ret ?_
                        try dsimp only [Exit.then, Exit.inBlock]
                        exact bodyPost_ret hres hd ⟨rfl, hb⟩
              · have h7z : (7 : Int) < (np : Int) + (nq : Int) := by omega
                have hq := HF.out
                rw [if_neg (fun h => h7 (by rw [HNP.out, HNQ.out]; exact h.2.2))] at hq
                obtain ⟨rfl, rfl, rfl, rfl, rfl, rfl, rfl, rfl, rfl⟩ := v9e_inj (Option.some.inj hq)
                clear hq HF
                go_upto_region 21 with (fail)
                have HXX := Lib.hid (show w2.heap[w.heap.size + 1]? = some (.cells #[.int .u16 0, .int .u16 0, .int .u16 0, .int .u16 0, .int .u16 0, .int .u16 0, .int .u16 0, .int .u16 0] 27 (0, 0)) from HS2.out.2.2.1)
                have HRR := Lib.hid HS2.out.2.1
                have HBB := Lib.hid HS2.out.1
                refine acopy (fn := Tryd.f13) rfl HXX.out HRR.out (by omega) HBB.out (Nat.le_refl _) rfl rfl (show 3 < 93 by decide) (show 93 < 121 by decide) ?_
                intro a' w' hd hres hb
                try dsimp only [Exit.then, Exit.inBlock]
                refine (by assumption : ∀ (a : Act) (w : World), Code.wp _ Code.ret _ a w → _) _ _ ?_
                refine hwp_ret ?_
                try dsimp only [Exit.then, Exit.inBlock]
                exact bodyPost_ret hres hd ⟨rfl, hb⟩
        · have hi1z : ¬ (i : Int) + 1 < n := by omega
          go_wp2_with fail
          refine (hcall _).mono ?_
          rintro e w1 ⟨v1, rfl, hR1, hb1⟩
          have HS1 := Lib.hid (show Below w.heap.size w w1 ∧ w1.heap[w.heap.size]? = some (.cells #[.int .u16 0, .int .u16 0, .int .u16 0, .int .u16 0, .int .u16 0, .int .u16 0, .int .u16 0, .int .u16 0] 27 (0, 0)) ∧ blkI w1 (w.heap.size + 1) [] ∧ w.heap.size + 2 ≤ w1.heap.size from by
            have hz := HA.out.2.2
            exact ⟨HB0.out.trans (hb1.mono (by omega)), (hb1.block _ (by omega)).trans HA.out.1, (hb1.block _ (by omega)).trans HA.out.2.1, by have := hb1.size; omega⟩)
          have HR1 := Lib.hid (show Kd.R (Kd.int .u16) 26 w1 (w.heap.size + 2) (fun _ => True) v1 l from by rw [← HA.out.2.2]; exact hR1)
          clear hb1 hcall HA HB0 hR1
          go_wp2_with fail
          refine (hcall2 _).mono ?_
          rintro e w2 ⟨v2, rfl, hR2, hb2⟩
          have HS2 := Lib.hid (show Below w.heap.size w w2 ∧ w2.heap[w.heap.size]? = some (.cells #[.int .u16 0, .int .u16 0, .int .u16 0, .int .u16 0, .int .u16 0, .int .u16 0, .int .u16 0, .int .u16 0] 27 (0, 0)) ∧ blkI w2 (w.heap.size + 1) [] ∧ w.heap.size + 2 ≤ w2.heap.size from by
            have h1 := HS1.out
            exact ⟨h1.1.trans (hb2.mono (by omega)), (hb2.block _ (by omega)).trans h1.2.1, (hb2.block _ (by omega)).trans h1.2.2.1, by have := hb2.size; omega⟩)
          have hR1' := Kd.R_below HR1.out hb2
          have hR2' := Kd.R_lower hR2 HS1.out.2.2.2
          obtain ⟨A1, c1, rfl, hle1, hC1⟩ := Kd.R_reads hR1'
          obtain ⟨A2, c2, rfl, hle2, hC2⟩ := Kd.R_reads hR2'
          have hfar1 := R_block hR1'
          have hfar2 := R_block hR2'
          obtain ⟨np, hnp⟩ : ∃ np, np = l.length := ⟨_, rfl⟩
          obtain ⟨nq, hnq⟩ : ∃ nq, nq = m.length := ⟨_, rfl⟩
          have hcell1 : 0 < np → ∃ b o, A1 = some ⟨b, o, none⟩ ∧ w.heap.size + 2 ≤ b ∧ b < w2.heap.size ∧ ∀ i : Nat, i < np → w2.cell? ⟨b, o + i, none⟩ = some (.int .u16 (l.getD i 0)) := fun h => by
            obtain ⟨b, o, e1, e2, e3⟩ := intAt2 (hnp ▸ hC1) h
            exact ⟨b, o, e1, hfar1 _ e1, e2, e3⟩
          have hcell2 : 0 < nq → ∃ b o, A2 = some ⟨b, o, none⟩ ∧ w.heap.size + 2 ≤ b ∧ b < w2.heap.size ∧ ∀ i : Nat, i < nq → w2.cell? ⟨b, o + i, none⟩ = some (.int .u16 (m.getD i 0)) := fun h => by
            obtain ⟨b, o, e1, e2, e3⟩ := intAt2 (hnq ▸ hC2) h
            exact ⟨b, o, e1, hfar2 _ e1, e2, e3⟩
          have HCELL := Lib.hid hcell1
          have HCELL2 := Lib.hid hcell2
          rw [← hnp] at hle1 hlm ⊢
          rw [← hnq] at hle2 hlm ⊢
          have HNP := Lib.hid hnp
          have HNQ := Lib.hid hnq
          clear hcell1 hcell2 hfar1 hfar2 hC1 hC2 hR1' hR2' hR2 HR1 hb2 hnp hnq hcall2 HS1
          cases ok with
          | false =>
            have hq := HF.out
            rw [if_neg (by simp)] at hq
            obtain ⟨rfl, rfl, rfl, rfl, rfl, rfl, rfl, rfl, rfl⟩ := v9e_inj (Option.some.inj hq)
            clear hq HF
            go_upto_region 21 with (fail)
            have HXX := Lib.hid (show w2.heap[w.heap.size + 1]? = some (.cells #[.int .u16 0, .int .u16 0, .int .u16 0, .int .u16 0, .int .u16 0, .int .u16 0, .int .u16 0, .int .u16 0] 27 (0, 0)) from HS2.out.2.2.1)
            have HRR := Lib.hid HS2.out.2.1
            have HBB := Lib.hid HS2.out.1
            refine acopy (fn := Tryd.f13) rfl HXX.out HRR.out (by omega) HBB.out (Nat.le_refl _) rfl rfl (show 3 < 93 by decide) (show 93 < 121 by decide) ?_
            intro a' w' hd hres hb
            try dsimp only [Exit.then, Exit.inBlock]
            refine (by assumption : ∀ (a : Act) (w : World), Code.wp _ Code.ret _ a w → _) _ _ ?_
            refine hwp_ret ?_
            try dsimp only [Exit.then, Exit.inBlock]
            exact bodyPost_ret hres hd ⟨rfl, hb⟩
          | true =>
            cases ok2 with
            | false =>
              have hq := HF.out
              rw [if_neg (by simp)] at hq
              obtain ⟨rfl, rfl, rfl, rfl, rfl, rfl, rfl, rfl, rfl⟩ := v9e_inj (Option.some.inj hq)
              clear hq HF
              go_upto_region 21 with (fail)
              have HXX := Lib.hid (show w2.heap[w.heap.size + 1]? = some (.cells #[.int .u16 0, .int .u16 0, .int .u16 0, .int .u16 0, .int .u16 0, .int .u16 0, .int .u16 0, .int .u16 0] 27 (0, 0)) from HS2.out.2.2.1)
              have HRR := Lib.hid HS2.out.2.1
              have HBB := Lib.hid HS2.out.1
              refine acopy (fn := Tryd.f13) rfl HXX.out HRR.out (by omega) HBB.out (Nat.le_refl _) rfl rfl (show 3 < 93 by decide) (show 93 < 121 by decide) ?_
              intro a' w' hd hres hb
              try dsimp only [Exit.then, Exit.inBlock]
              refine (by assumption : ∀ (a : Act) (w : World), Code.wp _ Code.ret _ a w → _) _ _ ?_
              refine hwp_ret ?_
              try dsimp only [Exit.then, Exit.inBlock]
              exact bodyPost_ret hres hd ⟨rfl, hb⟩
            | true =>
              by_cases h7 : np + nq ≤ 7
              · have h7z : ¬ (7 : Int) < (np : Int) + (nq : Int) := by omega
                have hq := HF.out
                rw [if_pos ⟨rfl, rfl, by rw [← HNP.out, ← HNQ.out]; exact h7⟩] at hq
                obtain ⟨ys, hys⟩ : ∃ ys, ys = l ++ List.replicate (8 - l.length - m.length) 0 ++ m := ⟨_, rfl⟩
                rw [← hys] at hq
                obtain ⟨rfl, rfl, rfl, rfl, rfl, rfl, rfl, rfl, rfl⟩ := v9_inj (Option.some.inj hq)
                have H7 := Lib.hid h7
                have HYS := Lib.hid hys
                clear hq HF h7 hys
                go_wp2
                go_loopg [96] np (fun gg sx wr => ∃ j : Nat, sx = .int .i64 j ∧ Hid ((j ≤ np ∧ np - j ≤ gg) ∧ blkI wr (w.heap.size + 1) (([] : List Int) ++ (l).take j) ∧ w2.grownBy wr (some (w.heap.size + 1))))
                case atStart => exact ⟨0, rfl, Lib.hid ⟨⟨by omega, by omega⟩, HS2.out.2.2.1, World.grownBy.refl _ _⟩⟩
                case round =>
                  obtain ⟨j, rfl, HI⟩ := hrel
                  have hj := HI.out.1
                  by_cases hlt : j < np
                  · have hjz : (j : Int) < np := by omega
                    obtain ⟨b, o, hA, hge, hbl, hcl⟩ := HCELL.out (by omega)
                    have hcx : wr.cell? ⟨b, o + j, none⟩ = some (.int .u16 ((l).getD j 0)) := by rw [World.cell?_of_block (w := w2) (HI.out.2.2.block b hbl (fun e => by have := Option.some.inj e; omega))]; exact hcl j hlt
                    have hpos8 : j < 8 := by have := H7.out; omega
                    obtain ⟨⟨u, hu⟩, hfz⟩ := blkI_cell HI.out.2.1 (by rw [List.length_append, List.length_take]; simp; omega) hpos8
                    obtain ⟨x, hx⟩ : ∃ x, x = (l).getD j 0 := ⟨_, rfl⟩
                    rw [← hx] at hcx
                    have HX := Lib.hid hx
                    subst hA
                    clear hx hge hbl hcl
                    go_wp2
                    go_roundg (np - (j + 1))
                    case measure => omega
                    case rel =>
                      refine ⟨j + 1, by go_num, Lib.hid ⟨⟨by omega, by omega⟩, ?_, ?_⟩⟩
                      · rw [HX.out]
                        exact blkI_snoc HI.out.2.1 (by rw [← HNP.out]; exact hlt) (by rw [List.length_nil]; omega) hpos8
                      · exact grown_trans HI.out.2.2 (grown_set _ _ _ _)
                  · obtain rfl : np = j := by omega
                    have HW := Lib.hid (show (np ≤ 8 ∧ nq ≤ 8) ∧ blkI wr (w.heap.size + 1) (l ++ List.replicate (8 - np - nq) 0) ∧ (l ++ List.replicate (8 - np - nq) 0).length = 8 - nq ∧ w2.grownBy wr (some (w.heap.size + 1)) from by
                      have h7 := H7.out
                      have hnp := HNP.out
                      have hb := HI.out.2.1
                      rw [List.nil_append, List.take_of_length_le (by omega)] at hb
                      refine ⟨⟨by omega, by omega⟩, blkI_pad hb _ (by omega), ?_, HI.out.2.2⟩
                      rw [List.length_append, List.length_replicate, ← hnp]; omega)
                    have HCELL3 := Lib.hid (show 0 < nq → ∃ b o, A2 = some ⟨b, o, none⟩ ∧ w.heap.size + 2 ≤ b ∧ b < wr.heap.size ∧ ∀ i : Nat, i < nq → wr.cell? ⟨b, o + i, none⟩ = some (.int .u16 (m.getD i 0)) from fun h => by
                      obtain ⟨b, o, hA, hge, hbl, hcl⟩ := HCELL2.out h
                      exact ⟨b, o, hA, hge, Nat.lt_of_lt_of_le hbl HW.out.2.2.2.size, fun i hi => by rw [World.cell?_of_block (w := w2) (HW.out.2.2.2.block b hbl (fun e => by have := Option.some.inj e; omega))]; exact hcl i hi⟩)
                    clear HI HCELL HCELL2 hj hlt
                    obtain ⟨wo, hwo⟩ : ∃ wo, wo = wr := ⟨_, rfl⟩
                    subst hwo
                    go_wp2
                    go_loopg [107] nq (fun gg sx wr => ∃ j : Nat, sx = .int .i64 j ∧ Hid ((j ≤ nq ∧ nq - j ≤ gg) ∧ blkI wr (w.heap.size + 1) ((l ++ List.replicate (8 - np - nq) 0) ++ (m).take j) ∧ wo.grownBy wr (some (w.heap.size + 1))))
                    case atStart => exact ⟨0, rfl, Lib.hid ⟨⟨by omega, by omega⟩, (by rw [List.take_zero, List.append_nil]; exact HW.out.2.1), World.grownBy.refl _ _⟩⟩
                    case round =>
                      obtain ⟨j, rfl, HI⟩ := hrel
                      have hj := HI.out.1
                      by_cases hlt : j < nq
                      · have hjz : (j : Int) < nq := by omega
                        obtain ⟨b, o, hA, hge, hbl, hcl⟩ := HCELL3.out (by omega)
                        have hcx : wr.cell? ⟨b, o + j, none⟩ = some (.int .u16 ((m).getD j 0)) := by rw [World.cell?_of_block (w := wo) (HI.out.2.2.block b hbl (fun e => by have := Option.some.inj e; omega))]; exact hcl j hlt
                        have hpos8 : (8 - nq + j) < 8 := by have := HW.out.1; omega
                        obtain ⟨⟨u, hu⟩, hfz⟩ := blkI_cell HI.out.2.1 (by rw [List.length_append, List.length_take]; have h1 := HW.out.2.2.1; have h2 := HW.out.1; have h3 := HNQ.out; rw [h1]; omega) hpos8
                        obtain ⟨x, hx⟩ : ∃ x, x = (m).getD j 0 := ⟨_, rfl⟩
                        rw [← hx] at hcx
                        have HX := Lib.hid hx
                        subst hA
                        clear hx hge hbl hcl
                        go_wp2
                        go_roundg (nq - (j + 1))
                        case measure => omega
                        case rel =>
                          refine ⟨j + 1, by go_num, Lib.hid ⟨⟨by omega, by omega⟩, ?_, ?_⟩⟩
                          · rw [HX.out]
                            exact blkI_snoc HI.out.2.1 (by rw [← HNQ.out]; exact hlt) (by rw [HW.out.2.2.1]) hpos8
                          · exact grown_trans HI.out.2.2 (grown_set _ _ _ _)
                      · obtain rfl : nq = j := by omega
                        have hfin : blkI wr (w.heap.size + 1) ys ∧ ys.length = 8 := by
                          have h7 := H7.out
                          have hnq := HNQ.out
                          have hnp := HNP.out
                          have hb := HI.out.2.1
                          rw [List.take_of_length_le (by omega)] at hb
                          rw [HYS.out, ← hnp, ← hnq]
                          refine ⟨hb, ?_⟩
                          rw [List.length_append, HW.out.2.2.1]; omega
                        have HXX := Lib.hid (blkI_lit hfin.1 hfin.2)
                        have hw := HW.out.2.2.2
                        have hsw := hw.size
                        have HRR := Lib.hid ((HI.out.2.2.block _ (by have := HS2.out.2.2.2; omega) (fun e => by have := Option.some.inj e; omega)).trans ((hw.block _ (by have := HS2.out.2.2.2; omega) (fun e => by have := Option.some.inj e; omega)).trans HS2.out.2.1))
                        have HBB := Lib.hid ((HS2.out.1.grown hw (by have := HS2.out.2.2.2; omega) (fun k e => by have := Option.some.inj e; omega)).grown HI.out.2.2 (by have := HS2.out.2.2.2; omega) (fun k e => by have := Option.some.inj e; omega))
                        clear hfin hw hsw
                        go_upto_region 32 with (fail)
                        refine acopy (fn := Tryd.f13) rfl HXX.out HRR.out (by omega) HBB.out (Nat.le_refl _) rfl rfl (show 3 < 120 by decide) (show 120 < 121 by decide) ?_
                        intro a' w' hd hres hb
                        try dsimp only [Exit.then, Exit.inBlock]
                        refine (by assumption : ∀ (a : Act) (w : World), Code.wp _ Code.ret _ a w → _) _ _ ?_
                        refine hwp_ret ?_
                        try dsimp only [Exit.then, Exit.inBlock]
                        exact bodyPost_ret hres hd ⟨rfl, hb⟩
              · have h7z : (7 : Int) < (np : Int) + (nq : Int) := by omega
                have hq := HF.out
                rw [if_neg (fun h => h7 (by rw [HNP.out, HNQ.out]; exact h.2.2))] at hq
                obtain ⟨rfl, rfl, rfl, rfl, rfl, rfl, rfl, rfl, rfl⟩ := v9e_inj (Option.some.inj hq)
                clear hq HF
                go_upto_region 21 with (fail)
                have HXX := Lib.hid (show w2.heap[w.heap.size + 1]? = some (.cells #[.int .u16 0, .int .u16 0, .int .u16 0, .int .u16 0, .int .u16 0, .int .u16 0, .int .u16 0, .int .u16 0] 27 (0, 0)) from HS2.out.2.2.1)
                have HRR := Lib.hid HS2.out.2.1
                have HBB := Lib.hid HS2.out.1
                refine acopy (fn := Tryd.f13) rfl HXX.out HRR.out (by omega) HBB.out (Nat.le_refl _) rfl rfl (show 3 < 93 by decide) (show 93 < 121 by decide) ?_
                intro a' w' hd hres hb
                try dsimp only [Exit.then, Exit.inBlock]
                refine (by assumption : ∀ (a : Act) (w : World), Code.wp _ Code.ret _ a w → _) _ _ ?_
                refine hwp_ret ?_
                try dsimp only [Exit.then, Exit.inBlock]
                exact bodyPost_ret hres hd ⟨rfl, hb⟩
end Go.Proofs.YtkabhnbjjnjdhaaDoor.Q
