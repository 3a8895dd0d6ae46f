/- Functions of the given program as plain Lean functions, each with the proof that the machine answers as it does; laid by a program of mine over the kit print. -/
/- What pct.Decode answers, on lists of bytes. -/
import Derived.Test.YtbcbmmlpgdndpaaDoorSB3
import Derived.Test.YtbcbmmlpgdndpaaDoorSUDec
import Derived.Test.YtbcbmmlpgdndpaaDoorSB2
import Derived.Test.YtbcbmmlpgdndpaaDoorSB6
import Derived.Test.YtbcbmmlpgdndpaaDoorSB7
import Derived.Test.YtbcbmmlpgdndpaaDoorSEnc
import Derived.Lib.Hide
import Derived.Test.YtbcbmmlpgdndpaaDoorSQpct0
section
namespace Go.Proofs.YtbcbmmlpgdndpaaDoor.Q
open Go.RowKit Go.Proofs.YtbcbmmlpgdndpaaDoorW.PrintWords Go.Proofs.YtbcbmmlpgdndpaaDoorW.PrintLast Go.Proofs.YtbcbmmlpgdndpaaDoorW.PrintMore
attribute [local go_sem] max2_int min2_int max_two min_two max_three min_three max_four min_four
set_option linter.unusedVariables false
set_option linter.unusedSimpArgs false
def utf_Scalar.f (a0 : ByteArray) : Option (ByteArray) := (utf_Valid.f a0).bind fun t376 => (if t376 = true then (some a0) else ((utf_Decode.f a0).bind fun t377 => ((utf_Encode.f t377).bind fun t380 => (some t380))))
set_option maxHeartbeats 8000000 in
set_option maxRecDepth 100000 in
theorem utf_Scalar.calls (a0 : ByteArray) (r : ByteArray) (w : World) (hT : UTabs w) (h : utf_Scalar.f a0 = some r) :
    Calls Tryd.prog 46 #[.string a0] w fun e w' => e = .returned (.string r) ∧ Below w.heap.size w w' := by
  have HB := Aside0.mk (Below.refl w.heap.size w)
  have HTB := Aside0.mk hT
  clear hT
  have H : ((utf_Valid.f a0).bind fun t376 => (if t376 = true then (some a0) else ((utf_Decode.f a0).bind fun t377 => ((utf_Encode.f t377).bind fun t380 => (some t380))))) = some r := h
  clear h
  replace H := Option.bind_eq_some_iff.mp H
  obtain ⟨t376, A20, H⟩ := H
  replace H : (if t376 = true then (some a0) else ((utf_Decode.f a0).bind fun t377 => ((utf_Encode.f t377).bind fun t380 => (some t380)))) = some r := H
  have A2 := Aside0.mk A20
  clear A20
  by_cases c3 : t376 = true
  · subst c3
    have H1 : (some a0) = some r := by rw [if_pos rfl] at H; exact H
    clear H
    have H := H1
    clear H1
    obtain rfl := Option.some.inj H
    go_enter Tryd.func46, Tryd.ntmps46
    go_wp2_with (first | ((with_reducible refine gate_callee (f := 15) rfl ?_); refine goesL_ (some 4) rfl rfl Tryd.func15 (by kernel_rfl) rfl #[.string a0] rfl (by (try simp only [List.map_toArray, List.map_cons, List.map_nil]); first | done | rfl | (simp only [List.length_drop, List.length_take]; rfl)) ?_; (with_reducible refine (utf_Valid.calls a0 true _ ?side1 A2.out).mono ?_); (case side1 => exact UTabs.below HTB.out (by repeat (first | (with_reducible first | exact HB.out | apply below_alloc | apply pw_below_drewN | apply below_drew1) | exact HB.out))); rintro e w4 ⟨rfl, hb⟩; refine ⟨_, rfl, ?_⟩; have n0_ := Aside0.mk (below_step (by repeat (first | (with_reducible first | exact HB.out | apply below_alloc | apply pw_below_drewN | apply below_drew1) | exact HB.out)) hb); clear HB; have HB := n0_; clear n0_; (try clear hb); (try clear hb2); (try clear hk); (try clear hi)))
    go_ret
    exact ⟨by first | rfl | (simp [errW_none, errW_some] <;> rfl) | (simp [*, errW_none, errW_some] <;> rfl), by repeat (first | (with_reducible first | exact HB.out | apply below_alloc | apply pw_below_drewN | apply below_drew1) | exact HB.out)⟩
  · replace c3 := Bool.eq_false_iff.mpr c3
    subst c3
    have H1 : ((utf_Decode.f a0).bind fun t377 => ((utf_Encode.f t377).bind fun t380 => (some t380))) = some r := by rw [if_neg (show ¬ (false = true) by decide)] at H; exact H
    clear H
    have H := H1
    clear H1
    replace H := Option.bind_eq_some_iff.mp H
    obtain ⟨t377, A50, H⟩ := H
    replace H : ((utf_Encode.f t377).bind fun t380 => (some t380)) = some r := H
    have A5 := Aside0.mk A50
    clear A50
    replace H := Option.bind_eq_some_iff.mp H
    obtain ⟨t380, A60, H⟩ := H
    replace H : (some t380) = some r := H
    have A6 := Aside0.mk A60
    clear A60
    obtain rfl := Option.some.inj H
    go_enter Tryd.func46, Tryd.ntmps46
    go_wp2_with (first | ((with_reducible refine gate_callee (f := 15) rfl ?_); refine goesL_ (some 4) rfl rfl Tryd.func15 (by kernel_rfl) rfl #[.string a0] rfl (by (try simp only [List.map_toArray, List.map_cons, List.map_nil]); first | done | rfl | (simp only [List.length_drop, List.length_take]; rfl)) ?_; (with_reducible refine (utf_Valid.calls a0 false _ ?side1 A2.out).mono ?_); (case side1 => exact UTabs.below HTB.out (by repeat (first | (with_reducible first | exact HB.out | apply below_alloc | apply pw_below_drewN | apply below_drew1) | exact HB.out))); rintro e w7 ⟨rfl, hb⟩; refine ⟨_, rfl, ?_⟩; have n0_ := Aside0.mk (below_step (by repeat (first | (with_reducible first | exact HB.out | apply below_alloc | apply pw_below_drewN | apply below_drew1) | exact HB.out)) hb); clear HB; have HB := n0_; clear n0_; (try clear hb); (try clear hb2); (try clear hk); (try clear hi)) | ((with_reducible refine gate_callee (f := 59) rfl ?_); refine goesL_ (some 7) rfl rfl Tryd.func59 (by kernel_rfl) rfl #[.string a0] rfl (by (try simp only [List.map_toArray, List.map_cons, List.map_nil]); first | done | rfl | (simp only [List.length_drop, List.length_take]; rfl)) ?_; (with_reducible refine (utf_Decode.calls a0 t377 _ ?side1 A5.out).mono ?_); (case side1 => exact UTabs.below HTB.out (by repeat (first | (with_reducible first | exact HB.out | apply below_alloc | apply pw_below_drewN | apply below_drew1) | exact HB.out))); rintro e w8 ⟨v378, rfl, ho0, hb⟩; refine ⟨_, rfl, ?_⟩; have n0_ := Aside0.mk (Kd.R_lower ho0 (below_size (by repeat (first | (with_reducible first | exact HB.out | apply below_alloc | apply pw_below_drewN | apply below_drew1) | exact HB.out)))); have n1_ := Aside0.mk (below_step (by repeat (first | (with_reducible first | exact HB.out | apply below_alloc | apply pw_below_drewN | apply below_drew1) | exact HB.out)) hb); clear HB; have HO379 := n0_; have HB := n1_; clear n0_ n1_; (try clear hb); (try clear hb2); (try clear hk); (try clear hi); (try clear ho0); obtain ⟨Ao9, co9, eo9⟩ := Kd.R_slice HO379.out; subst eo9) | ((with_reducible refine gate_callee (f := 64) rfl ?_); refine goesL_ (some 8) rfl rfl Tryd.func64 (by kernel_rfl) rfl #[.slice Ao9 t377.length co9] rfl (by (try simp only [List.map_toArray, List.map_cons, List.map_nil]); first | done | rfl | (simp only [List.length_drop, List.length_take]; rfl)) ?_; (with_reducible refine (utf_Encode.calls _ _ t377 t380 _ ?side1 ?side2 A6.out).mono ?_); (case side1 => repeat (first | exact (Kd.R_reads' HO379.out).2.2 | (with_reducible refine Kd.C_alloc ?_ _) | (with_reducible refine Kd.C_drewN ?_ _) | (with_reducible refine Kd.C_drew ?_))); (case side2 => exact (Kd.R_reads' HO379.out).2.1); rintro e w10 ⟨rfl, hb⟩; refine ⟨_, rfl, ?_⟩; have n0_ := Aside0.mk (Kd.R_below (by (with_reducible repeat (first | apply Kd.R_alloc | apply Kd.R_drewN | apply Kd.R_drew)); exact HO379.out) hb); have n1_ := Aside0.mk (below_step (by repeat (first | (with_reducible first | exact HB.out | apply below_alloc | apply pw_below_drewN | apply below_drew1) | exact HB.out)) hb); clear HO379; clear HB; have HO379 := n0_; have HB := n1_; clear n0_ n1_; (try clear hb); (try clear hb2); (try clear hk); (try clear hi)))
    go_ret
    exact ⟨by first | rfl | (simp [errW_none, errW_some] <;> rfl) | (simp [*, errW_none, errW_some] <;> rfl), by repeat (first | (with_reducible first | exact HB.out | apply below_alloc | apply pw_below_drewN | apply below_drew1) | exact HB.out)⟩
end Go.Proofs.YtbcbmmlpgdndpaaDoor.Q
end
section
namespace Go.Proofs.YtbcbmmlpgdndpaaDoor.Q
open Go.RowKit Go.Proofs.YtbcbmmlpgdndpaaDoorW.PrintWords Go.Proofs.YtbcbmmlpgdndpaaDoorW.PrintLast Go.Proofs.YtbcbmmlpgdndpaaDoorW.PrintMore Go.Proofs.YtbcbmmlpgdndpaaDoor.P1
set_option linter.unusedSimpArgs false
/-- A hexadecimal digit's number, and whether it is one. -/
def digI (b : Int) : Int × Bool := if 48 ≤ b ∧ b ≤ 57 then (b - 48, true) else if 97 ≤ b ∧ b ≤ 102 then (b - 87, true) else if 65 ≤ b ∧ b ≤ 70 then (b - 55, true) else (0, false)
def dg (c : UInt8) : Option Nat := if (digI c.toNat).2 then some (digI c.toNat).1.toNat else none
theorem pct_digit_tab : ∀ b : Fin 256, pct_digit.f 5 (b.val : Int) = some (digI b.val) := by decide +kernel
theorem pct_digit_f (c : UInt8) (k : Nat) (hk : 5 ≤ k) : pct_digit.f k (c.toNat : Int) = some (digI c.toNat) :=
  at_more (fun k => pct_digit.mono _ k) hk (all_u8 (p := fun b => pct_digit.f 5 b = some (digI b)) pct_digit_tab c)
theorem digI_lt : ∀ b : Fin 256, (digI b.val).2 = true → 0 ≤ (digI b.val).1 ∧ (digI b.val).1 < 16 := by decide +kernel
theorem dg_some {c : UInt8} (h : (digI c.toNat).2 = true) : ∃ n : Nat, n < 16 ∧ digI c.toNat = ((n : Int), true) ∧ dg c = some n := by
  have := digI_lt ⟨c.toNat, c.toNat_lt⟩ h
  simp only [] at this
  refine ⟨(digI c.toNat).1.toNat, by omega, ?_, ?_⟩
  · rw [← h]; ext
    · simp only []; omega
    · rfl
  · unfold dg; rw [if_pos h]
theorem dg_none {c : UInt8} (h : (digI c.toNat).2 = false) : dg c = none := by unfold dg; rw [h]; rfl
def decL : List UInt8 → List UInt8
  | [] => []
  | [a] => [a]
  | [a, b] => [a, b]
  | c :: a :: b :: r => if c = 37 then (match dg a, dg b with | some x, some y => (16 * x + y).toUInt8 :: decL r | _, _ => c :: decL (a :: b :: r)) else c :: decL (a :: b :: r)
theorem decL_cons_ne {c : UInt8} (h : c ≠ 37) (r : List UInt8) : decL (c :: r) = c :: decL r := by
  match r with
  | [] => rfl
  | [a] => rfl
  | a :: b :: r => rw [decL, if_neg h]
theorem decL_short (c : UInt8) (r : List UInt8) (h : r.length ≤ 1) : decL (c :: r) = c :: decL r := by
  match r with
  | [] => rfl
  | [a] => rfl
  | a :: b :: r => simp at h
theorem decL_no {a b : UInt8} (c : UInt8) (r : List UInt8) (h : dg a = none ∨ dg b = none) : decL (c :: a :: b :: r) = c :: decL (a :: b :: r) := by
  rw [decL]
  split
  · rcases h with h | h
    · rw [h]
    · rw [h]; cases dg a <;> rfl
  · rfl
theorem decL_yes {a b : UInt8} {x y : Nat} (r : List UInt8) (ha : dg a = some x) (hb : dg b = some y) : decL (37 :: a :: b :: r) = (16 * x + y).toUInt8 :: decL r := by
  rw [decL, if_pos rfl, ha, hb]
theorem or_tab : ∀ x y : Fin 16, Go.bits .or .u8 (((x.val : Int) * 16) % 256) (y.val : Int) = (((16 * x.val + y.val).toUInt8).toNat : Int) := by decide +kernel
theorem pct_Decode_l0 (n : Nat) : ∀ (l : List UInt8) (x : List Int) (k : Nat), l.length ≤ n → 2 * n + 9 ≤ k → x.length + l.length ≤ 140737488355327 →
    pct_Decode.l0 k (B l) x = some (strOfNums (x ++ ns (decL l))) := by
  induction n with
  | zero =>
    intro l x k hl hk hx
    obtain ⟨k, rfl⟩ : ∃ m, k = m + 1 := ⟨k - 1, by omega⟩
    obtain rfl : l = [] := List.eq_nil_of_length_eq_zero (by omega)
    simp only [pct_Decode.l0]
    rw [if_pos (B_toList _)]
    simp [decL, ns]
  | succ n ih =>
    intro l x k hl hk hx
    obtain ⟨k, rfl⟩ : ∃ m, k = m + 2 := ⟨k - 2, by omega⟩
    cases l with
    | nil =>
      simp only [pct_Decode.l0]
      rw [if_pos (B_toList _)]
      simp [decL, ns]
    | cons c r =>
      have hsz : (0 : Int) < ((B (c :: r)).size : Int) := by rw [B_size, List.length_cons]; omega
      have hl' : r.length ≤ n := by simpa using hl
      have hx' : x.length + (r.length + 1) ≤ 140737488355327 := by simpa using hx
      have h0 : bt (B (c :: r)) 0 = (c.toNat : Int) := by rw [B_bt]; rfl
      have hone : ∀ k', 2 * n + 9 ≤ k' → pct_Decode.l0 k' ((B (c :: r)).extract 1 (B (c :: r)).size) (x ++ [(c.toNat : Int)]) = some (strOfNums (x ++ ns (c :: decL r))) := by
        intro k' hk'
        rw [B_extract_end, show (c :: r).drop 1 = r from rfl, ih r _ k' hl' hk' (by simp; omega)]
        simp [ns_cons]
      have hplain : pct_Decode.j1 (k + 1) (B (c :: r)) x false = some (strOfNums (x ++ ns (c :: decL r))) := by
        simp only [pct_Decode.j1]
        rw [if_neg (by decide), if_pos hsz, if_pos (by omega), if_pos (by rw [B_size]; simp; omega), h0]
        exact hone k (by omega)
      simp only [pct_Decode.l0]
      rw [if_neg (by rw [B_toList]; simp), if_pos hsz, h0]
      by_cases h37 : c = 37
      · subst h37
        rw [if_pos (by decide)]
        match r, hl', hx', hone, hplain, h0, hsz with
        | [], _, _, _, hplain, _, _ => rw [decide_eq_false (by rw [B_size]; simp), hplain, decL_short 37 [] (by simp)]
        | [a], _, _, _, hplain, _, _ => rw [decide_eq_false (by rw [B_size]; simp), hplain, decL_short 37 [a] (by simp)]
        | a :: b :: r, hl', hx', hone, hplain, h0, hsz =>
          have s3 : ((B (37 :: a :: b :: r)).size : Int) = (r.length : Int) + 3 := by rw [B_size]; simp; omega
          have h1 : bt (B (37 :: a :: b :: r)) 1 = (a.toNat : Int) := by rw [B_bt]; rfl
          have h2 : bt (B (37 :: a :: b :: r)) 2 = (b.toNat : Int) := by rw [B_bt]; rfl
          rw [decide_eq_true (by rw [s3]; omega)]
          simp only [pct_Decode.j1]
          rw [if_pos trivial, if_pos (by rw [s3]; omega), h1, pct_digit_f a k (by omega)]
          simp only [Option.bind_some]
          rw [if_pos (by rw [s3]; omega), h2, pct_digit_f b k (by omega)]
          simp only [Option.bind_some]
          by_cases ea : (digI a.toNat).2 = true
          · by_cases eb : (digI b.toNat).2 = true
            · obtain ⟨p, hp, ep, dp⟩ := dg_some ea
              obtain ⟨q, hq, eq, dq⟩ := dg_some eb
              rw [if_pos ea, if_pos eb, if_pos (by simp at hx'; omega), if_pos (by rw [s3]; omega), B_extract_end, show (37 :: a :: b :: r).drop 3 = r from rfl, ep, eq]
              simp only []
              rw [or_tab ⟨p, hp⟩ ⟨q, hq⟩, ih r _ k (by simp at hl'; omega) (by omega) (by simp at hx' ⊢; omega), decL_yes r dp dq]
              simp [ns_cons]
            · rw [if_pos ea, if_neg eb, if_pos hsz, if_pos (by omega), if_pos (by rw [s3]; omega), h0, hone k (by omega), decL_no _ _ (.inr (dg_none (Bool.eq_false_iff.mpr eb)))]
          · rw [if_neg ea, if_pos hsz, if_pos (by omega), if_pos (by rw [s3]; omega), h0, hone k (by omega), decL_no _ _ (.inl (dg_none (Bool.eq_false_iff.mpr ea)))]
      · rw [if_neg (by intro e; apply h37; exact UInt8.toNat_inj.mp (by have : (37 : UInt8).toNat = 37 := rfl; omega)), hplain, decL_cons_ne h37]
theorem pct_Decode_ev (l : List UInt8) (h : l.length ≤ 140737488355327) : Ev (fun k => pct_Decode.f k (B l)) (B (decL l)) :=
  Ev.mk (2 * l.length + 9) fun k hk => by
    unfold pct_Decode.f
    rw [pct_Decode_l0 l.length l [] k (Nat.le_refl _) hk (by simpa using h), List.nil_append, strOf_ns]
end Go.Proofs.YtbcbmmlpgdndpaaDoor.Q
end
