/- NfcOrder, plain. -/
import Derived.Test.YtmjnipifpeehgaaDoorSNOpn
import Derived.Test.YtmjnipifpeehgaaDoorSNPln
import Derived.Test.YtmjnipifpeehgaaDoorSQNfcOrder
set_option linter.unusedSimpArgs false
set_option linter.unusedVariables false
namespace Go.Proofs.YtmjnipifpeehgaaDoor.Q
open Go.RowKit Go.Proofs.YtmjnipifpeehgaaDoorW.PrintWords
section
variable (x0 : List Sp) (cl : List Cl) (x2 : List Pa) (x3 : List Wa) (x4 : List Jo) (h1 : cl.length ≤ 1073741824) (h2 : x2.length ≤ 1073741824)
include h1 h2
theorem ord_l1 (l a : List Int) (c : Int) (hla : l.length = a.length) (hl : l.length ≤ 1048576) : ∀ (n i k : Nat) (X Y : List Int), i + n = l.length → X.length ≤ i → Y.length ≤ i →
    bastionlaw04_NfcOrder.l1 (k + n + 1) l a c X Y (l.length : Int) (i : Int) x0 cl x2 x3 x4 = (bastionref02_Same.f k (X ++ (l.drop i).filter (fun x => clsOf cl x == c % 256)) (Y ++ (a.drop i).filter (fun x => clsOf cl x == c % 256))).bind fun t => if t = true then bastionlaw04_NfcOrder.l0 k l a (wrap64 (c + 1)) x0 cl x2 x3 x4 else some false := by
  intro n
  induction n with
  | zero =>
    intro i k X Y hi hX hY
    rw [bastionlaw04_NfcOrder.l1, if_neg (by omega), List.drop_of_length_le (by omega), List.drop_of_length_le (by omega), List.filter_nil, List.append_nil, List.append_nil]
  | succ n ih =>
    intro i k X Y hi hX hY
    have hil : i < l.length := by omega
    have hia : i < a.length := by omega
    have e1 : rd l (i : Int) = l[i] := by simp [rd, List.getD_eq_getElem?_getD, hil]
    have e2 : rd a (i : Int) = a[i] := by simp [rd, List.getD_eq_getElem?_getD, hia]
    have hX2 : X.length < 35184372088832 := by omega
    have hY2 : Y.length < 35184372088832 := by omega
    have hn1 : i + 1 + n = l.length := by omega
    have g1 : (i : Int) < (l.length : Int) := by omega
    have g2 : (0 : Int) ≤ (i : Int) := by omega
    have g3 : (i : Int) < (a.length : Int) := by omega
    have d1 : l.drop i = l[i] :: l.drop (i + 1) := List.drop_eq_getElem_cons hil
    have d2 : a.drop i = a[i] :: a.drop (i + 1) := List.drop_eq_getElem_cons hia
    have hXs : ∀ z, (X ++ [z]).length ≤ i + 1 := fun z => by simp; omega
    have hYs : ∀ z, (Y ++ [z]).length ≤ i + 1 := fun z => by simp; omega
    have hw : wrap64 ((i : Int) + 1) = ((i + 1 : Nat) : Int) := by unfold wrap64; omega
    show bastionlaw04_NfcOrder.l1 ((k + n + 1) + 1) l a c X Y (l.length : Int) (i : Int) x0 cl x2 x3 x4 = _
    rw [bastionlaw04_NfcOrder.l1, if_pos g1, if_pos g2, if_pos g1, e1, e2, cls_some x0 cl x2 x3 x4 h1 h2, cls_some x0 cl x2 x3 x4 h1 h2, Option.bind_some, Option.bind_some, hw, d1, d2]
    clear hw
    by_cases hc1 : clsOf cl l[i] = c % 256
    · rw [if_pos hc1, if_pos hX2, Option.bind_some, if_pos g3, List.filter_cons_of_pos (by rw [hc1]; simp)]
      by_cases hc2 : clsOf cl a[i] = c % 256
      · rw [if_pos hc2, if_pos hY2, List.filter_cons_of_pos (by rw [hc2]; simp), ih (i + 1) k _ _ hn1 (hXs _) (hYs _)]
        simp
      · rw [if_neg hc2, List.filter_cons_of_neg (by rw [beq_eq_false_iff_ne.2 hc2]; simp), ih (i + 1) k _ _ hn1 (hXs _) (by omega)]
        simp
    · rw [if_neg hc1, if_pos g3, Option.bind_some, List.filter_cons_of_neg (by rw [beq_eq_false_iff_ne.2 hc1]; simp)]
      by_cases hc2 : clsOf cl a[i] = c % 256
      · rw [if_pos hc2, if_pos hY2, List.filter_cons_of_pos (by rw [hc2]; simp), ih (i + 1) k _ _ hn1 (by omega) (hYs _)]
        simp
      · rw [if_neg hc2, List.filter_cons_of_neg (by rw [beq_eq_false_iff_ne.2 hc2]; simp), ih (i + 1) k _ _ hn1 (by omega) (by omega)]
theorem ord_l0 (l a : List Int) (hla : l.length = a.length) (hl : l.length ≤ 1048576) (hf : ∀ c : Int, l.filter (fun x => clsOf cl x == c) = a.filter (fun x => clsOf cl x == c)) : ∀ (m c k : Nat), c + m = 256 → l.length + 1 ≤ k →
    bastionlaw04_NfcOrder.l0 (k + 1 + m * (l.length + 2)) l a (c : Int) x0 cl x2 x3 x4 = bastionlaw04_NfcOrder.l2 k l a (l.length : Int) 0 x0 cl x2 x3 x4 := by
  intro m
  induction m with
  | zero =>
    intro c k hc hk
    rw [Nat.zero_mul, Nat.add_zero, bastionlaw04_NfcOrder.l0, if_neg (by omega)]
  | succ m ih =>
    intro c k hc hk
    have e : k + 1 + (m + 1) * (l.length + 2) = ((k + 1 + m * (l.length + 2)) + l.length + 1) + 1 := by rw [Nat.succ_mul]; omega
    have hfl : ∀ z : List Int, (z.filter (fun x => clsOf cl x == (c : Int) % 256)).length ≤ z.length := fun z => List.length_filter_le _ _
    have hk2 : l.length + 1 ≤ k + 1 + m * (l.length + 2) := by omega
    rw [e, bastionlaw04_NfcOrder.l0, if_pos (by omega)]
    have := ord_l1 x0 cl x2 x3 x4 h1 h2 l a (c : Int) hla hl l.length 0 (k + 1 + m * (l.length + 2)) [] [] (by omega) (Nat.le_refl _) (Nat.le_refl _)
    refine Eq.trans this ?_
    rw [List.drop_zero, List.drop_zero, List.nil_append, List.nil_append, hf ((c : Int) % 256), same_some _ _ (by have := hfl a; omega) _ (by have := hfl a; omega), Option.bind_some, if_pos (by simp)]
    have hw : wrap64 ((c : Int) + 1) = ((c + 1 : Nat) : Int) := by unfold wrap64; omega
    rw [hw]
    clear hw
    exact ih (c + 1) k (by omega) hk
theorem ord_l2 (l a : List Int) (hla : l.length = a.length) (hl : l.length ≤ 1048576) (hz : ∀ (i : Nat) (h : i < l.length), (clsOf cl l[i] == 0) = (clsOf cl (a[i]'(by omega)) == 0)) (ha : ∀ (i : Nat) (h : i + 1 < a.length), clsOf cl a[i + 1] ≠ 0 → clsOf cl (a[i]'(by omega)) ≤ clsOf cl a[i + 1]) : ∀ (n i k : Nat), i + n = l.length → n + 1 ≤ k →
    bastionlaw04_NfcOrder.l2 k l a (l.length : Int) (i : Int) x0 cl x2 x3 x4 = some true := by
  intro n
  induction n with
  | zero =>
    intro i k hi hk
    obtain ⟨k, rfl⟩ : ∃ k', k = k' + 1 := ⟨k - 1, by omega⟩
    rw [bastionlaw04_NfcOrder.l2, if_neg (by omega)]
  | succ n ih =>
    intro i k hi hk
    obtain ⟨k, rfl⟩ : ∃ k', k = k' + 1 := ⟨k - 1, by omega⟩
    have hil : i < l.length := by omega
    have hia : i < a.length := by omega
    have e1 : rd l (i : Int) = l[i] := by simp [rd, List.getD_eq_getElem?_getD, hil]
    have e2 : rd a (i : Int) = a[i] := by simp [rd, List.getD_eq_getElem?_getD, hia]
    have hn1 : i + 1 + n = l.length := by omega
    have hk1 : n + 1 ≤ k := by omega
    have g1 : (i : Int) < (l.length : Int) := by omega
    have g2 : (0 : Int) ≤ (i : Int) := by omega
    have g3 : (i : Int) < (a.length : Int) := by omega
    have hih := ih (i + 1) k hn1 hk1
    have hw : wrap64 ((i : Int) + 1) = ((i + 1 : Nat) : Int) := by unfold wrap64; omega
    rw [bastionlaw04_NfcOrder.l2, if_pos g1, if_pos g2, if_pos g1, e1, cls_some x0 cl x2 x3 x4 h1 h2, Option.bind_some, if_pos g3, e2, cls_some x0 cl x2 x3 x4 h1 h2, Option.bind_some, hz i hil, if_neg (by simp), hw]
    clear hw
    by_cases hi0 : (i : Int) > 0
    · rw [if_pos hi0, Option.bind_some]
      by_cases hc : clsOf cl a[i] = 0
      · rw [if_pos hc]; exact hih
      · rw [if_neg hc]
        obtain ⟨j, rfl⟩ : ∃ j, i = j + 1 := ⟨i - 1, by omega⟩
        have hja : j < a.length := by omega
        have hw2 : wrap64 (((j + 1 : Nat) : Int) - 1) = (j : Int) := by unfold wrap64; omega
        have e3 : rd a (j : Int) = a[j] := by simp [rd, List.getD_eq_getElem?_getD, hja]
        have g4 : (j : Int) < (a.length : Int) := by omega
        have g5 : (0 : Int) ≤ (j : Int) := by omega
        rw [hw2, if_pos g5, if_pos g4, e3, cls_some x0 cl x2 x3 x4 h1 h2, Option.bind_some, Option.bind_some]
        clear hw2
        have := ha j (by omega) hc
        rw [if_neg (by omega)]
        exact hih
    · rw [if_neg hi0]; exact hih
end
theorem order_pure (x : TabR) (l : List Int) (h : okT x) (hw : ∀ n ∈ l, (Lit.int .i32 n).wf = true) (hs : mTab x + l.length ≤ 1048576) : ∃ k, bastionlaw04_NfcOrder.f k x.f0 x.f1 x.f2 x.f3 x.f4 l = some true := by
  unfold mTab at hs
  have h1 : x.f1.length ≤ 1073741824 := by omega
  have h2 : x.f2.length ≤ 1073741824 := by omega
  have hpos := clsOk_pos h.1
  obtain ⟨a, ha⟩ : ∃ a, a = I.ordL x.f1 l := ⟨_, rfl⟩
  have hal : a.length = l.length := by rw [ha]; exact ordL_length _ _
  have hagain : I.ordL x.f1 a = a := by rw [ha]; exact St.sg_again (I.clsN x.f1) l
  have hcn : ∀ y z, I.clsN x.f1 y = I.clsN x.f1 z ↔ clsOf x.f1 y = clsOf x.f1 z := fun y z => by
    have := hpos y; have := hpos z
    unfold I.clsN; omega
  have hfil : ∀ c : Int, l.filter (fun y => clsOf x.f1 y == c) = a.filter (fun y => clsOf x.f1 y == c) := fun c => by
    rw [ha]
    exact (St.sg_filter (I.clsN x.f1) (fun y => clsOf x.f1 y == c) (fun y z hy hz => by
      rw [hcn]
      rw [beq_iff_eq] at hy hz
      rw [hy, hz]) l).symm
  have hzero : ∀ (i : Nat) (hi : i < l.length), (clsOf x.f1 l[i] == 0) = (clsOf x.f1 (a[i]'(by omega)) == 0) := fun i hi => by
    have hm := St.sg_zero (I.clsN x.f1) l
    have hm2 : a.map (fun y => I.clsN x.f1 y == 0) = l.map (fun y => I.clsN x.f1 y == 0) := by rw [ha]; exact hm
    have e := congrArg (fun z => z[i]?) hm2
    simp only [List.getElem?_map, List.getElem?_eq_getElem hi, List.getElem?_eq_getElem (show i < a.length by omega), Option.map_some, Option.some.injEq] at e
    have c1 : ∀ y, (I.clsN x.f1 y == 0) = (clsOf x.f1 y == 0) := fun y => by
      have := hpos y
      rw [Bool.eq_iff_iff, beq_iff_eq, beq_iff_eq]
      unfold I.clsN; omega
    rw [c1, c1] at e
    exact e.symm
  have hadj : ∀ (i : Nat) (hi : i + 1 < a.length), clsOf x.f1 a[i + 1] ≠ 0 → clsOf x.f1 (a[i]'(by omega)) ≤ clsOf x.f1 a[i + 1] := fun i hi hne => by
    have hA : St.Adj (I.clsN x.f1) a := by rw [ha]; exact St.sg_adj (I.clsN x.f1) l
    have := St.adj_get (I.clsN x.f1) a hA i hi (by have := hpos a[i + 1]; unfold I.clsN; omega)
    have p1 := hpos a[i]
    have p2 := hpos a[i + 1]
    unfold I.clsN at this
    omega
  have ho : nfc_Ordered.f x.f0 x.f1 x.f2 x.f3 x.f4 l = some a := by unfold nfc_Ordered.f; rw [if_pos ⟨h1, by omega, h.1⟩, ha]
  have ho2 : nfc_Ordered.f x.f0 x.f1 x.f2 x.f3 x.f4 a = some a := by unfold nfc_Ordered.f; rw [if_pos ⟨h1, by omega, h.1⟩, hagain]
  clear ha
  refine ⟨(12289 + l.length + 1 + 256 * (l.length + 2)) + 1, ?_⟩
  unfold bastionlaw04_NfcOrder.f
  rw [lives_some _ (by omega), Option.bind_some, if_pos rfl, ho, Option.bind_some, if_pos (by omega), ho2, Option.bind_some, same_some _ _ (by omega) _ (by omega), Option.bind_some]
  rw [show (!(a == a)) = false from by simp, bastionlaw04_NfcOrder.j0, if_neg (by decide)]
  have := ord_l0 x.f0 x.f1 x.f2 x.f3 x.f4 h1 h2 l a hal.symm (by omega) hfil 256 0 (12289 + l.length) (by omega) (by omega)
  exact this.trans (ord_l2 x.f0 x.f1 x.f2 x.f3 x.f4 h1 h2 l a hal.symm (by omega) hzero hadj l.length 0 _ (by omega) (by omega))
end Go.Proofs.YtmjnipifpeehgaaDoor.Q
