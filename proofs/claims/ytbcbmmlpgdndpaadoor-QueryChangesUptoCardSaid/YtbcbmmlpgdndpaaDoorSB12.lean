/- What the functions of layer 2 answer, plain. -/
/- Percent-encoding and decoding undo one another, on lists of bytes. -/
/- What pct.Decode, Lower, Upper, Same and the reference's answer, on lists of bytes. -/
/- Functions of the given program as plain Lean functions, each with the proof that the machine answers as it does; laid by a program of mine over the kit print. -/
/- What bastionref01.In and Encode answer; encoding and decoding undo one another, on lists of bytes. -/
/- Functions of the given program as plain Lean functions, each with the proof that the machine answers as it does; laid by a program of mine over the kit print. -/
/- What a row's listed tables of unicode/utf8 give the contracts; and a world that holds them. -/
import Derived.Test.YtbcbmmlpgdndpaaDoorSUtfRef
import Derived.Test.YtbcbmmlpgdndpaaDoorSUDec
import Derived.Test.YtbcbmmlpgdndpaaDoorSB6
import Derived.Test.YtbcbmmlpgdndpaaDoorSB8
import Derived.Test.YtbcbmmlpgdndpaaDoorSB7
import Derived.Lib.Hide
import Derived.Test.YtbcbmmlpgdndpaaDoorSB9
import Derived.Test.YtbcbmmlpgdndpaaDoorSB3
import Derived.Test.YtbcbmmlpgdndpaaDoorRows
import Derived.PinnedBridge
import Derived.Lib.LaidU8
import Derived.LaidLaws
import Derived.ProofKit
import Derived.Clock
import Derived.Lib.LaidTab
section
namespace Go.Proofs.YtbcbmmlpgdndpaaDoor.Q
open Go.RowKit Go.Proofs.YtbcbmmlpgdndpaaDoorW.PrintWords Go.Proofs.YtbcbmmlpgdndpaaDoorW.PrintLast Go.Proofs.YtbcbmmlpgdndpaaDoorW.PrintMore Go.Proofs.YtbcbmmlpgdndpaaDoor.P1
set_option linter.unusedSimpArgs false
set_option linter.unusedVariables false
theorem may_32 {x : Int} (h : mayR x) : inR32 x := by unfold mayR at h; unfold inR32; omega
theorem utf_Decode_f (l : List UInt8) (h : l.length ≤ 35184372088831) : utf_Decode.f (B l) = some (uDec l) := by
  unfold utf_Decode.f; rw [if_pos (by rw [B_size]; exact h), B_data]
theorem utf_Encode_f (l : List Int) (h : l.length ≤ 17592186044416) (hx : ∀ x ∈ l, inR32 x) : utf_Encode.f l = some (B (encRunes l)) := by
  unfold utf_Encode.f; rw [if_pos ⟨h, hx⟩]; rfl
theorem utf_Valid_f (l : List UInt8) (h : l.length ≤ 9223372036854775807) : utf_Valid.f (B l) = some (encRunes (uDec l) == l) := by
  unfold utf_Valid.f; rw [if_pos (by rw [B_size]; exact h), B_data, valid_iff]
theorem utf_Scalar_f (l : List UInt8) (h : l.length ≤ 17592186044416) : utf_Scalar.f (B l) = some (B (encRunes (uDec l))) := by
  have hd := uDec_length l.length l (Nat.le_refl _)
  unfold utf_Scalar.f
  rw [utf_Valid_f l (by omega)]
  simp only [Option.bind_some]
  by_cases e : encRunes (uDec l) = l
  · rw [if_pos (by rw [e]; simp), e]
  · rw [if_neg (by simpa using e), utf_Decode_f l (by omega)]
    simp only [Option.bind_some]
    rw [utf_Encode_f _ (by omega) (fun x hx => may_32 (uDec_may _ l (Nat.le_refl _) x hx))]
    rfl
end Go.Proofs.YtbcbmmlpgdndpaaDoor.Q
end
section
namespace Go.Proofs.YtbcbmmlpgdndpaaDoor.Q
open Go.RowKit Go.Proofs.YtbcbmmlpgdndpaaDoorW.PrintWords Go.Proofs.YtbcbmmlpgdndpaaDoorW.PrintLast Go.Proofs.YtbcbmmlpgdndpaaDoorW.PrintMore Go.Proofs.YtbcbmmlpgdndpaaDoor.P1
set_option linter.unusedSimpArgs false
set_option linter.unusedVariables false
end Go.Proofs.YtbcbmmlpgdndpaaDoor.Q
end
section
namespace Go.Proofs.YtbcbmmlpgdndpaaDoor.Q.Pc
open Go.RowKit Go.Proofs.YtbcbmmlpgdndpaaDoorW.PrintWords Go.Proofs.YtbcbmmlpgdndpaaDoorW.PrintLast Go.Proofs.YtbcbmmlpgdndpaaDoorW.PrintMore Go.Proofs.YtbcbmmlpgdndpaaDoor.P1
set_option linter.unusedSimpArgs false
theorem ref_Digit_tab : ∀ b : Fin 256, bastionref01_Digit.f 20 (b.val : Int) = some (if (digI b.val).2 then (digI b.val).1 else 16) := by decide +kernel
theorem ref_Digit_f (c : UInt8) (k : Nat) (hk : 20 ≤ k) : bastionref01_Digit.f k (c.toNat : Int) = some (if (digI c.toNat).2 then (digI c.toNat).1 else 16) :=
  at_more (fun k => bastionref01_Digit.mono _ k) hk (all_u8 (p := fun b => bastionref01_Digit.f 20 b = some (if (digI b).2 then (digI b).1 else 16)) ref_Digit_tab c)
theorem at_end (p r : List UInt8) (j : Nat) (d : UInt8) : (p ++ r).getD (p.length + j) d = r.getD j d := by
  simp [List.getD_eq_getElem?_getD, List.getElem?_append_right (Nat.le_add_right _ _)]
theorem bt_end (p r : List UInt8) (j : Nat) (i : Int) (h : i = (p.length : Int) + j) : bt (B (p ++ r)) i = ((r.getD j 0).toNat : Int) := by
  rw [B_bt, show i.toNat = p.length + j by omega, at_end]
theorem cat_tab : ∀ x y : Fin 16, ((((x.val : Int) * 16) % 256) + (y.val : Int)) % 256 = (((16 * x.val + y.val).toUInt8).toNat : Int) := by decide +kernel
theorem B_snoc_size (p r : List UInt8) (c : UInt8) : ((B (p ++ c :: r)).size : Int) = (p.length : Int) + (r.length : Int) + 1 := by rw [B_size]; simp; omega
theorem snoc_eq (p r : List UInt8) (c : UInt8) : p ++ c :: r = (p ++ [c]) ++ r := by simp
theorem ref_Decode_l0 (n : Nat) : ∀ (r p : List UInt8) (x : List Int) (k : Nat), r.length ≤ n → 2 * n + 30 ≤ k → x.length + r.length ≤ 140737488355327 → p.length + r.length ≤ 140737488355327 →
    bastionref01_Decode.l0 k (B (p ++ r)) x p.length = some (strOfNums (x ++ ns (decL r))) := by
  induction n with
  | zero =>
    intro r p x k hl hk hx hp
    obtain ⟨k, rfl⟩ : ∃ m, k = m + 1 := ⟨k - 1, by omega⟩
    obtain rfl : r = [] := List.eq_nil_of_length_eq_zero (by omega)
    simp only [bastionref01_Decode.l0]
    rw [if_neg (by rw [B_size]; simp)]
    simp [decL, ns]
  | succ n ih =>
    intro r p x k hl hk hx hp
    obtain ⟨k, rfl⟩ : ∃ m, k = m + 2 := ⟨k - 2, by omega⟩
    cases r with
    | nil =>
      simp only [bastionref01_Decode.l0]
      rw [if_neg (by rw [B_size]; simp)]
      simp [decL, ns]
    | cons c r =>
      have hsz := B_snoc_size p r c
      have hl' : r.length ≤ n := by simpa using hl
      have hx' : x.length + (r.length + 1) ≤ 140737488355327 := by simpa using hx
      have hp' : p.length + (r.length + 1) ≤ 140737488355327 := by simpa using hp
      have h0 : bt (B (p ++ c :: r)) p.length = (c.toNat : Int) := by rw [bt_end p (c :: r) 0 _ (by omega)]; rfl
      have E1 := Lib.hid (show wrap64 ((p.length : Int) + 1) = (p.length : Int) + 1 from w64 (by omega) (by omega))
      have E2 := Lib.hid (show wrap64 ((p.length : Int) + 2) = (p.length : Int) + 2 from w64 (by omega) (by omega))
      have E3 := Lib.hid (show wrap64 ((p.length : Int) + 2 + 1) = (p.length : Int) + 3 from (w64 (by omega) (by omega)).trans (by omega))
      have hone : ∀ k', 2 * n + 30 ≤ k' → bastionref01_Decode.l0 k' (B (p ++ c :: r)) (x ++ [(c.toNat : Int)]) ((p.length : Int) + 1) = some (strOfNums (x ++ ns (c :: decL r))) := by
        intro k' hk'
        have := ih r (p ++ [c]) (x ++ [(c.toNat : Int)]) k' hl' hk' (by simp; omega) (by simp; omega)
        rw [← snoc_eq] at this
        simp only [List.length_append, List.length_cons, List.length_nil, Nat.zero_add, Int.natCast_add, Int.natCast_one] at this
        rw [this]
        simp [ns_cons]
      have hplain : bastionref01_Decode.j1 (k + 1) (B (p ++ c :: r)) x p.length false = some (strOfNums (x ++ ns (c :: decL r))) := by
        simp only [bastionref01_Decode.j1]
        rw [if_neg (by decide), if_pos (by omega), if_pos (by rw [hsz]; omega), if_pos (by omega), h0, E1.out]
        exact hone k (by omega)
      simp only [bastionref01_Decode.l0]
      rw [if_pos (by rw [hsz]; omega), if_pos (by omega), h0]
      by_cases h37 : c = 37
      · subst h37
        rw [if_pos (by decide), E1.out, E2.out]
        match r, hl', hx', hp', hone, hplain, h0, hsz with
        | [], _, _, _, _, hplain, _, hsz => rw [if_neg (by rw [hsz]; simp <;> omega), hplain, decL_short 37 [] (by simp)]
        | [a], _, _, _, _, hplain, _, hsz => rw [if_neg (by rw [hsz]; simp <;> omega), hplain, decL_short 37 [a] (by simp)]
        | a :: b :: r, hl', hx', hp', hone, hplain, h0, hsz =>
          have s3 : ((B (p ++ 37 :: a :: b :: r)).size : Int) = (p.length : Int) + (r.length : Int) + 3 := by rw [hsz]; simp; omega
          have h1 : bt (B (p ++ 37 :: a :: b :: r)) ((p.length : Int) + 1) = (a.toNat : Int) := by rw [bt_end p (37 :: a :: b :: r) 1 _ (by omega)]; rfl
          have h2 : bt (B (p ++ 37 :: a :: b :: r)) ((p.length : Int) + 2) = (b.toNat : Int) := by rw [bt_end p (37 :: a :: b :: r) 2 _ (by omega)]; rfl
          rw [if_pos (by rw [s3]; omega), if_pos (by omega), if_pos (by rw [s3]; omega), h1, ref_Digit_f a (k + 1) (by omega)]
          simp only [Option.bind_some]
          by_cases ea : (digI a.toNat).2 = true
          · obtain ⟨q1, hq1, ep, dp⟩ := dg_some ea
            rw [if_pos ea, ep]
            simp only []
            rw [if_pos (by omega), if_pos (by omega), h2, ref_Digit_f b (k + 1) (by omega)]
            simp only [Option.bind_some]
            by_cases eb : (digI b.toNat).2 = true
            · obtain ⟨q2, hq2, eq, dq⟩ := dg_some eb
              rw [if_pos eb, eq, decide_eq_true (by simp only []; omega)]
              simp only [bastionref01_Decode.j1]
              rw [if_pos trivial, E1.out, E2.out, if_pos (by omega), if_pos (by rw [s3]; omega), h1, ref_Digit_f a k (by omega)]
              simp only [Option.bind_some]
              rw [if_pos (by omega), if_pos (by rw [s3]; omega), h2, ref_Digit_f b k (by omega)]
              simp only [Option.bind_some]
              rw [if_pos ea, if_pos eb, if_pos (by omega), ep, eq, E3.out]
              simp only []
              rw [cat_tab ⟨q1, hq1⟩ ⟨q2, hq2⟩, decL_yes r dp dq]
              have := ih r (p ++ [37, a, b]) (x ++ [(((16 * q1 + q2).toUInt8).toNat : Int)]) k (by simp at hl'; omega) (by omega) (by simp at hx' ⊢; omega) (by simp at hp' ⊢; omega)
              rw [show (p ++ [37, a, b]) ++ r = p ++ 37 :: a :: b :: r by simp, show (((p ++ [37, a, b]).length : Nat) : Int) = (p.length : Int) + 3 by simp] at this
              simp only []
              rw [this]
              simp [ns_cons]
            · rw [if_neg eb, show (decide ((16 : Int) < 16)) = false from rfl, hplain, decL_no _ _ (.inr (dg_none (Bool.eq_false_iff.mpr eb)))]
          · rw [if_neg ea, if_neg (by omega), hplain, decL_no _ _ (.inl (dg_none (Bool.eq_false_iff.mpr ea)))]
      · rw [if_neg (by intro e; apply h37; exact UInt8.toNat_inj.mp (by have : (37 : UInt8).toNat = 37 := rfl; omega)), hplain, decL_cons_ne h37]
theorem ref_Decode_ev (l : List UInt8) (h : l.length ≤ 140737488355327) : Ev (fun k => bastionref01_Decode.f k (B l)) (B (decL l)) :=
  Ev.mk (2 * l.length + 30) fun k hk => by
    unfold bastionref01_Decode.f
    have := ref_Decode_l0 l.length l [] [] k (Nat.le_refl _) hk (by simpa using h) (by simpa using h)
    rw [List.nil_append, List.nil_append, strOf_ns] at this
    exact this
end Go.Proofs.YtbcbmmlpgdndpaaDoor.Q.Pc
end
section
namespace Go.Proofs.YtbcbmmlpgdndpaaDoor.Q
open Go.RowKit Go.Proofs.YtbcbmmlpgdndpaaDoorW.PrintWords Go.Proofs.YtbcbmmlpgdndpaaDoorW.PrintLast Go.Proofs.YtbcbmmlpgdndpaaDoorW.PrintMore
attribute [local go_sem] max2_int min2_int max_two min_two max_three min_three max_four min_four
set_option linter.unusedVariables false
set_option linter.unusedSimpArgs false
attribute [local go_sem] IntKind.wrap_u8
end Go.Proofs.YtbcbmmlpgdndpaaDoor.Q
end
section
namespace Go.Proofs.YtbcbmmlpgdndpaaDoor.Q.Pc
open Go.RowKit Go.Proofs.YtbcbmmlpgdndpaaDoorW.PrintWords Go.Proofs.YtbcbmmlpgdndpaaDoorW.PrintLast Go.Proofs.YtbcbmmlpgdndpaaDoorW.PrintMore Go.Proofs.YtbcbmmlpgdndpaaDoor.P1
set_option linter.unusedSimpArgs false
set_option linter.unusedVariables false
end Go.Proofs.YtbcbmmlpgdndpaaDoor.Q.Pc
end
section
namespace Go.Proofs.YtbcbmmlpgdndpaaDoor.Q
open Go.RowKit Go.Proofs.YtbcbmmlpgdndpaaDoorW.PrintWords Go.Proofs.YtbcbmmlpgdndpaaDoorW.PrintLast Go.Proofs.YtbcbmmlpgdndpaaDoorW.PrintMore
attribute [local go_sem] max2_int min2_int max_two min_two max_three min_three max_four min_four
set_option linter.unusedVariables false
set_option linter.unusedSimpArgs false
theorem eqA32 (d : Nat) (w : World) (x0 y0 : ByteArray) (x1 y1 : ByteArray) :
    (Op.equalIn (d + 2) 32 (.agg #[.string x0, .string x1]) (.agg #[.string y0, .string y1])).run Tryd.prog w = .ok (x0.toList == y0.toList && (x1.toList == y1.toList)) w := by
  refine eqA_of Tryd.underlying32 (by kernel_rfl) ?_
  refine eqf_cons (by rfl) (by go_simp; rfl) (by go_simp; rfl) (by go_simp) ?_
  exact eqf_last (by rfl) (by go_simp; rfl) (by go_simp; rfl) (by go_simp)
end Go.Proofs.YtbcbmmlpgdndpaaDoor.Q
end
section
namespace Go.Proofs.YtbcbmmlpgdndpaaDoor.Q
open Go.Shelf Go.Lib
set_option maxRecDepth 100000
def Tryd.lays260_ren : Go.Shelf.Ren := ⟨fun | 260 => 86 | n => n, fun | 0 => 0 | 3 => 3 | 4 => 4 | 5 => 5 | 9 => 9 | 21 => 21 | 46 => 86 | 119 => 82 | 138 => 84 | 139 => 85 | n => n, fun | 3 => 0 | 4 => 1 | n => n⟩
theorem Tryd.lays260 : Go.Proofs.Lays.n260 Tryd.prog Tryd.lays260_ren := {
  mixed := by kernel_rfl
  f260 := Tryd.func86.trans (congrArg some (by kernel_rfl))
  t0 := Tryd.underlying0
  a0 := Tryd.isAgg0
  z0 := Tryd.sizeOf0
  v0 := Tryd.zeroValue0
  t3 := Tryd.underlying3
  a3 := Tryd.isAgg3
  z3 := Tryd.sizeOf3
  v3 := Tryd.zeroValue3
  t4 := Tryd.underlying4
  a4 := Tryd.isAgg4
  z4 := Tryd.sizeOf4
  v4 := Tryd.zeroValue4
  t5 := Tryd.underlying5
  a5 := Tryd.isAgg5
  z5 := Tryd.sizeOf5
  v5 := Tryd.zeroValue5
  t9 := Tryd.underlying9
  a9 := Tryd.isAgg9
  z9 := Tryd.sizeOf9
  v9 := Tryd.zeroValue9
  t21 := Tryd.underlying21
  a21 := Tryd.isAgg21
  z21 := Tryd.sizeOf21
  v21 := Tryd.zeroValue21
  t46 := Tryd.underlying86
  a46 := Tryd.isAgg86
  z46 := Tryd.sizeOf86
  v46 := Tryd.zeroValue86
  t119 := Tryd.underlying82
  a119 := Tryd.isAgg82
  z119 := Tryd.sizeOf82
  t138 := Tryd.underlying84
  a138 := Tryd.isAgg84
  z138 := Tryd.sizeOf84
  v138 := Tryd.zeroValue84
  t139 := Tryd.underlying85
  a139 := Tryd.isAgg85
  z139 := Tryd.sizeOf85
  v139 := Tryd.zeroValue85
  g3 := by kernel_rfl
  g4 := by kernel_rfl }
theorem utf8Extra : U8Extra Tryd.prog Tryd.lays260_ren := { n3 := by kernel_rfl, n4 := by kernel_rfl, y3 := by kernel_rfl, y4 := by kernel_rfl, c5 := by kernel_rfl, c119 := by kernel_rfl, c138 := by kernel_rfl }
theorem int_of_shape {P : Program} {w : World} {g : Nat} {t : TypeId} {zero : Array Value} {k : IntKind} (h : w.ShapedOpen P) (hg : g < P.globals.size)
    (h0 : ((begin P (fun _ _ => 0) default).world.heap[g]?).bind Obj.row? = some (zero, t)) (hz : zero.size = 1)
    (hb : P.buildable t = true) (hc : P.cellTypes P.depth t = some [t]) (hu : P.underlying t = some (.int k)) : ∃ m, w.cell? ⟨g, 0, none⟩ = some (.int k m) := by
  obtain ⟨cs, hh, hs, hr⟩ := h.1 g zero t hg h0
  obtain ⟨ts, hts, _, hall⟩ := hr hb
  rw [hc] at hts
  cases hts
  have h1 : 0 < cs.size := by omega
  obtain ⟨u, hu', hok⟩ := hall 0 cs[0] (by simp [h1])
  have : u = t := by simpa using hu'.symm
  subst this
  have hcell : w.cell? ⟨g, 0, none⟩ = some cs[0] := by simp [World.cell?, hh, h1]
  rw [hcell]
  unfold Cell.ok at hok
  rw [hu] at hok
  cases hv : cs[0] <;> rw [hv] at hok <;> first | (simp at hok; done) | skip
  obtain ⟨rfl, _⟩ := hok
  exact ⟨_, rfl⟩
theorem utabs_of_laid {W : World} (h : laidMetH Tryd.prog [("unicode/utf8.acceptRanges", Rows.laid_unicode_utf8_acceptRanges), ("unicode/utf8.first", Rows.laid_unicode_utf8_first)] W) (hS : W.ShapedOpen Tryd.prog) : UTabs W := by
  have h' : laidMet Tryd.prog [("unicode/utf8.acceptRanges", Rows.laid_unicode_utf8_acceptRanges), ("unicode/utf8.first", Rows.laid_unicode_utf8_first)] W := h
  refine ⟨utf8Tabs_of_reads Tryd.lays260 utf8Extra ?_ ?_, int_of_shape (t := 3) (zero := #[.int .i64 0]) hS (of_decide_eq_true (by kernel_rfl)) (by kernel_rfl) rfl (by kernel_rfl) (by kernel_rfl) Tryd.underlying3, trivial⟩
  · exact Pinned.utf8First_eq ▸ laidMet.reads h' (n := "unicode/utf8.first") (d := Rows.laid_unicode_utf8_first) (by simp)
  · have := laidMet.reads h' (n := "unicode/utf8.acceptRanges") (d := Rows.laid_unicode_utf8_acceptRanges) (by simp)
    rw [show (acceptData : DataW Unit) = Rows.laid_unicode_utf8_acceptRanges by kernel_rfl]
    exact this
/-- The settled world, the two tables as their initialisers lay them. -/
noncomputable def laidWorld (os : Os) : World :=
  { World.holding Tryd.prog os ⟨#[], #[], []⟩ with heap := (((World.holding Tryd.prog os ⟨#[], #[], []⟩).heap.modify 0 fun
      | .cells _ t frozen => .cells (firstTab.map fun z => Value.int .u8 z).toArray t frozen
      | o => o).modify 1 fun
      | .cells _ t frozen => .cells (((List.range 16).map fun i => [Value.int .u8 (accLo i), Value.int .u8 (accHi i)]).flatten).toArray t frozen
      | o => o) }
end Go.Proofs.YtbcbmmlpgdndpaaDoor.Q
end
