/- addr.number: what a part of an address of version 4 is. -/
import Derived.Test.YtkabhnbjjnjdhaaDoorSAllF
import Derived.Test.YtkabhnbjjnjdhaaDoorSPu
set_option linter.unusedSimpArgs false
set_option linter.unusedVariables false
namespace Go.Proofs
open Go.Shelf Go.RowKit
def Tryd.laysPu_14_ren : Go.Shelf.Ren := ⟨fun | 14 => 40 | 16 => 53 | 17 => 54 | 19 => 65 | 20 => 66 | 21 => 67 | 22 => 68 | 23 => 69 | 24 => 70 | 25 => 85 | 26 => 86 | 27 => 32 | 28 => 47 | 29 => 58 | 30 => 76 | 31 => 77 | 32 => 78 | 33 => 79 | 34 => 90 | 35 => 91 | 36 => 92 | 37 => 93 | 38 => 94 | 39 => 96 | 40 => 97 | n => n, fun | 0 => 0 | 2 => 2 | 3 => 3 | 4 => 4 | 5 => 5 | 9 => 9 | 20 => 20 | 21 => 21 | 22 => 42 | 24 => 60 | 25 => 61 | 34 => 85 | 36 => 35 | 37 => 69 | 39 => 87 | 44 => 105 | 47 => 83 | 48 => 116 | 50 => 118 | 52 => 92 | 55 => 95 | 59 => 112 | 60 => 22 | 61 => 113 | 65 => 124 | 66 => 125 | 67 => 75 | n => n, fun | 0 => 1 | 1 => 2 | 2 => 3 | 3 => 6 | 4 => 7 | n => n⟩
theorem Tryd.laysPu_14 : Go.Proofs.LaysPu.n14 Tryd.prog Tryd.laysPu_14_ren := {
  mixed := by kernel_rfl
  f14 := Tryd.func40.trans (congrArg some (by kernel_rfl))
  f16 := Tryd.func53.trans (congrArg some (by kernel_rfl))
  f17 := Tryd.func54.trans (congrArg some (by kernel_rfl))
  f19 := Tryd.func65.trans (congrArg some (by kernel_rfl))
  f20 := Tryd.func66.trans (congrArg some (by kernel_rfl))
  f21 := Tryd.func67.trans (congrArg some (by kernel_rfl))
  f22 := Tryd.func68.trans (congrArg some (by kernel_rfl))
  f23 := Tryd.func69.trans (congrArg some (by kernel_rfl))
  f24 := Tryd.func70.trans (congrArg some (by kernel_rfl))
  f25 := Tryd.func85.trans (congrArg some (by kernel_rfl))
  f26 := Tryd.func86.trans (congrArg some (by kernel_rfl))
  f27 := Tryd.func32.trans (congrArg some (by kernel_rfl))
  f28 := Tryd.func47.trans (congrArg some (by kernel_rfl))
  f29 := Tryd.func58.trans (congrArg some (by kernel_rfl))
  f30 := Tryd.func76.trans (congrArg some (by kernel_rfl))
  f31 := Tryd.func77.trans (congrArg some (by kernel_rfl))
  f32 := Tryd.func78.trans (congrArg some (by kernel_rfl))
  f33 := Tryd.func79.trans (congrArg some (by kernel_rfl))
  f34 := Tryd.func90.trans (congrArg some (by kernel_rfl))
  f35 := Tryd.func91.trans (congrArg some (by kernel_rfl))
  f36 := Tryd.func92.trans (congrArg some (by kernel_rfl))
  f37 := Tryd.func93.trans (congrArg some (by kernel_rfl))
  f38 := Tryd.func94.trans (congrArg some (by kernel_rfl))
  f39 := Tryd.func96.trans (congrArg some (by kernel_rfl))
  f40 := Tryd.func97.trans (congrArg some (by kernel_rfl))
  t0 := Tryd.underlying0
  a0 := Tryd.isAgg0
  z0 := Tryd.sizeOf0
  v0 := Tryd.zeroValue0
  i0 := by kernel_rfl
  t2 := Tryd.underlying2
  a2 := Tryd.isAgg2
  z2 := Tryd.sizeOf2
  v2 := Tryd.zeroValue2
  i2 := by kernel_rfl
  t3 := Tryd.underlying3
  a3 := Tryd.isAgg3
  z3 := Tryd.sizeOf3
  v3 := Tryd.zeroValue3
  i3 := by kernel_rfl
  t4 := Tryd.underlying4
  a4 := Tryd.isAgg4
  z4 := Tryd.sizeOf4
  v4 := Tryd.zeroValue4
  i4 := by kernel_rfl
  t5 := Tryd.underlying5
  a5 := Tryd.isAgg5
  z5 := Tryd.sizeOf5
  v5 := Tryd.zeroValue5
  i5 := by kernel_rfl
  t9 := Tryd.underlying9
  a9 := Tryd.isAgg9
  z9 := Tryd.sizeOf9
  v9 := Tryd.zeroValue9
  i9 := by kernel_rfl
  t20 := Tryd.underlying20
  a20 := Tryd.isAgg20
  z20 := Tryd.sizeOf20
  v20 := Tryd.zeroValue20
  i20 := by kernel_rfl
  t21 := Tryd.underlying21
  a21 := Tryd.isAgg21
  z21 := Tryd.sizeOf21
  v21 := Tryd.zeroValue21
  i21 := by kernel_rfl
  t22 := Tryd.underlying42
  a22 := Tryd.isAgg42
  z22 := Tryd.sizeOf42
  v22 := Tryd.zeroValue42
  i22 := by kernel_rfl
  t24 := Tryd.underlying60
  a24 := Tryd.isAgg60
  z24 := Tryd.sizeOf60
  v24 := Tryd.zeroValue60
  i24 := by kernel_rfl
  t25 := Tryd.underlying61
  a25 := Tryd.isAgg61
  z25 := Tryd.sizeOf61
  v25 := Tryd.zeroValue61
  i25 := by kernel_rfl
  t34 := Tryd.underlying85
  a34 := Tryd.isAgg85
  z34 := Tryd.sizeOf85
  v34 := Tryd.zeroValue85
  i34 := by kernel_rfl
  c34 := by kernel_rfl
  t36 := Tryd.underlying35
  a36 := Tryd.isAgg35
  z36 := Tryd.sizeOf35
  v36 := Tryd.zeroValue35
  i36 := by kernel_rfl
  t37 := Tryd.underlying69
  a37 := Tryd.isAgg69
  z37 := Tryd.sizeOf69
  v37 := Tryd.zeroValue69
  i37 := by kernel_rfl
  t39 := Tryd.underlying87
  a39 := Tryd.isAgg87
  z39 := Tryd.sizeOf87
  v39 := Tryd.zeroValue87
  i39 := by kernel_rfl
  t44 := Tryd.underlying105
  a44 := Tryd.isAgg105
  z44 := Tryd.sizeOf105
  v44 := Tryd.zeroValue105
  i44 := by kernel_rfl
  t47 := Tryd.underlying83
  a47 := Tryd.isAgg83
  z47 := Tryd.sizeOf83
  v47 := Tryd.zeroValue83
  i47 := by kernel_rfl
  t48 := Tryd.underlying116
  a48 := Tryd.isAgg116
  z48 := Tryd.sizeOf116
  v48 := Tryd.zeroValue116
  i48 := by kernel_rfl
  t50 := Tryd.underlying118
  a50 := Tryd.isAgg118
  z50 := Tryd.sizeOf118
  v50 := Tryd.zeroValue118
  i50 := by kernel_rfl
  t52 := Tryd.underlying92
  a52 := Tryd.isAgg92
  z52 := Tryd.sizeOf92
  v52 := Tryd.zeroValue92
  i52 := by kernel_rfl
  t55 := Tryd.underlying95
  a55 := Tryd.isAgg95
  z55 := Tryd.sizeOf95
  v55 := Tryd.zeroValue95
  i55 := by kernel_rfl
  t59 := Tryd.underlying112
  a59 := Tryd.isAgg112
  z59 := Tryd.sizeOf112
  v59 := Tryd.zeroValue112
  i59 := by kernel_rfl
  t60 := Tryd.underlying22
  a60 := Tryd.isAgg22
  z60 := Tryd.sizeOf22
  v60 := Tryd.zeroValue22
  i60 := by kernel_rfl
  t61 := Tryd.underlying113
  a61 := Tryd.isAgg113
  z61 := Tryd.sizeOf113
  t65 := Tryd.underlying124
  a65 := Tryd.isAgg124
  z65 := Tryd.sizeOf124
  v65 := Tryd.zeroValue124
  i65 := by kernel_rfl
  t66 := Tryd.underlying125
  a66 := Tryd.isAgg125
  z66 := Tryd.sizeOf125
  v66 := Tryd.zeroValue125
  i66 := by kernel_rfl
  t67 := Tryd.underlying75
  a67 := Tryd.isAgg75
  z67 := Tryd.sizeOf75
  v67 := Tryd.zeroValue75
  i67 := by kernel_rfl
  g0 := by kernel_rfl
  m0 := by kernel_rfl
  g1 := by kernel_rfl
  m1 := by kernel_rfl
  g2 := by kernel_rfl
  m2 := by kernel_rfl
  g3 := by kernel_rfl
  m3 := by kernel_rfl
  g4 := by kernel_rfl
  m4 := by kernel_rfl }
end Go.Proofs
namespace Go.Proofs.YtkabhnbjjnjdhaaDoor.Q
open Go.RowKit Go.Proofs.YtkabhnbjjnjdhaaDoorW.PrintWords Go.Proofs.YtkabhnbjjnjdhaaDoorW.PrintLast Go.Proofs.YtkabhnbjjnjdhaaDoorW.PrintMore Go.Proofs.YtkabhnbjjnjdhaaDoor.Ad
/-- decimal, and decimal or a letter, and octal: the kinds that number asks for -/
def pDec : Nat → Int → Bool := fun _ => decB
def pHex : Nat → Int → Bool := fun j => if j = 0 then decB else letB
def pOct : Nat → Int → Bool := fun _ => octB
def numAns (b : Nat) (ok : Bool) (t : ByteArray) : Int × Bool :=
  if ok = false ∨ t.size = 0 then (0, ok) else match puAll b 18446744073709551615 t.data.toList with
  | .ok n => ((n : Int), true)
  | _ => (9223372036854775808, true)
theorem nto {p : Prop} (h : ¬ p) : ¬ (true = false ∨ p) := fun h' => h'.elim (fun e => by cases e) h
theorem numAns_no {b : Nat} {ok : Bool} {t : ByteArray} (h : ok = false) : numAns b ok t = (0, false) := by unfold numAns; rw [if_pos (.inl h), h]
theorem numAns_empty {b : Nat} {t : ByteArray} (h : t.size = 0) : numAns b true t = (0, true) := by unfold numAns; rw [if_pos (.inr h)]
theorem numAns_ok {b : Nat} {t : ByteArray} (h : ¬ t.size = 0) {n : Nat} (hp : puAll b 18446744073709551615 t.data.toList = .ok n) : numAns b true t = ((n : Int), true) := by
  unfold numAns; rw [if_neg (nto h), hp]
theorem numAns_big {b : Nat} {t : ByteArray} (h : ¬ t.size = 0) (hp : ∀ n, puAll b 18446744073709551615 t.data.toList ≠ .ok n) : numAns b true t = (9223372036854775808, true) := by
  unfold numAns; rw [if_neg (nto h)]
  split
  · rename_i n hn; exact absurd hn (hp n)
  · rfl
def isHex (s : ByteArray) : Prop := 1 < s.size ∧ bt s 0 = 48 ∧ Go.bits .or .u8 (bt s 1) 32 = 120
def isOct (s : ByteArray) : Prop := 1 < s.size ∧ bt s 0 = 48
instance (s : ByteArray) : Decidable (isHex s) := by unfold isHex; infer_instance
instance (s : ByteArray) : Decidable (isOct s) := by unfold isOct; infer_instance
def numP (s : ByteArray) : Int × Bool :=
  if isHex s then numAns 16 (allB pHex 2 (s.extract 2 s.size)) (s.extract 2 s.size)
  else if isOct s then numAns 8 (allB pOct 1 (s.extract 1 s.size)) (s.extract 1 s.size)
  else numAns 10 (decide (s.size ≠ 0) && allB pDec 1 s) s
theorem ok_pDec : ∀ j, j < [31].length → okFn ([31].getD j 0) (pDec j) := by
  intro j hj
  have : j = 0 := by simp at hj; exact hj
  subst this; exact ok_dec
theorem ok_pOct : ∀ j, j < [39].length → okFn ([39].getD j 0) (pOct j) := by
  intro j hj
  have : j = 0 := by simp at hj; exact hj
  subst this; exact ok_oct
theorem ok_pHex : ∀ j, j < [31, 38].length → okFn ([31, 38].getD j 0) (pHex j) := by
  intro j hj
  have : j = 0 ∨ j = 1 := by simp at hj; omega
  rcases this with rfl | rfl
  · exact ok_dec
  · exact ok_let
theorem fns1 (w : World) (g : Nat) (t : TypeId) : fnsAt (w.alloc (.cells #[fnV g] t)) w.heap.size [g] := by
  intro j hj
  have : j = 0 := by simp at hj; exact hj
  subst this; exact allocCell w _ t
theorem fns2 (w : World) (g h : Nat) (t : TypeId) : fnsAt (w.alloc (.cells #[fnV g, fnV h] t)) w.heap.size [g, h] := by
  intro j hj
  have : j = 0 ∨ j = 1 := by simp at hj; omega
  unfold World.cell?
  rw [show (w.alloc (.cells #[fnV g, fnV h] t)).heap = w.heap.push (.cells #[fnV g, fnV h] t) from rfl]
  rcases this with rfl | rfl <;> simp
/-- addr.all over one kind, two kinds, just laid -/
theorem all_one (g : Nat) (p : Nat → Int → Bool) (s : ByteArray) (w : World) (hs : s.size ≤ 140737488355328) (hg : ∀ j, j < [g].length → okFn ([g].getD j 0) (p j)) (c : Nat) :
    Calls Tryd.prog 30 #[.string s, .slice (some ⟨w.heap.size, 0, none⟩) 1 c] (w.alloc (.cells #[.func (.func g) #[] #[]] 51)) fun e w' => e = .returned (.bool (allB p 1 s)) ∧ Below w.heap.size w w' := by
  refine (all_calls w.heap.size c [g] p s (w.alloc (.cells #[fnV g] 51)) (by simp) hs hg (fns1 w g _) (by rw [allocSz]; omega)).mono ?_
  rintro e w' ⟨he, hb⟩
  exact ⟨he, ((Below.refl _ w).alloc (Nat.le_refl _) _).trans (hb.mono (by rw [allocSz]; omega))⟩
theorem all_two (g h : Nat) (p : Nat → Int → Bool) (s : ByteArray) (w : World) (hs : s.size ≤ 140737488355328) (hg : ∀ j, j < [g, h].length → okFn ([g, h].getD j 0) (p j)) (c : Nat) :
    Calls Tryd.prog 30 #[.string s, .slice (some ⟨w.heap.size, 0, none⟩) 2 c] (w.alloc (.cells #[.func (.func g) #[] #[], .func (.func h) #[] #[]] 51)) fun e w' => e = .returned (.bool (allB p 2 s)) ∧ Below w.heap.size w w' := by
  refine (all_calls w.heap.size c [g, h] p s (w.alloc (.cells #[fnV g, fnV h] 51)) (by simp) hs hg (fns2 w g h _) (by rw [allocSz]; omega)).mono ?_
  rintro e w' ⟨he, hb⟩
  exact ⟨he, ((Below.refl _ w).alloc (Nat.le_refl _) _).trans (hb.mono (by rw [allocSz]; omega))⟩
theorem tl_ne {t : ByteArray} (h : ¬ t.size = 0) : (t.toList == ([] : List UInt8)) = false := by
  rw [beq_eq_false_iff_ne]
  intro e
  apply h
  rw [Go.ByteArray.toList_eq] at e
  rw [Lib.size_eq, e]; rfl
theorem tl_em {t : ByteArray} (h : t.size = 0) : t = ⟨#[]⟩ := by
  apply ByteArray.ext
  exact Array.eq_empty_of_size_eq_zero h
set_option maxHeartbeats 8000000 in
theorem number_hex (s t : ByteArray) (ok2 : Bool) (hs : s.size ≤ 1000000000) (w : World) (hT : UTabs w) (h1 : 1 < s.size) (c0 : bt s 0 = 48) (c1 : Go.bits .or .u8 (bt s 1) 32 = 120) (htd : t = s.extract 2 s.size) (hok : allB pHex 2 t = ok2) :
    Calls Tryd.prog 24 #[.string s] w fun e w' => e = .returned (.tuple #[.int .u64 (numAns 16 ok2 t).1, .bool (numAns 16 ok2 t).2]) ∧ Below w.heap.size w w' := by
  have HT := Lib.hid hT
  clear hT
  have e30 : ∀ args w, (callFunc 30 args).run Tryd.prog w = .ok (.enter 30 args) w := enters_of Tryd.func30 (by kernel_rfl) rfl
  have e40 : ∀ args w, (callFunc 40 args).run Tryd.prog w = .ok (.enter 40 args) w := enters_of Tryd.func40 (by kernel_rfl) rfl
  have h0 : ¬ s.size = 0 := by omega
  have hne := tl_ne h0
  have hi2 : (2 ≤ (s.size : Int)) = True := eq_true (by omega)
  have hi1 : (1 ≤ (s.size : Int)) = True := eq_true (by omega)
  have b0 : ((s[0]'(by omega)).toNat : Int) = bt s 0 := bt_at s 0 (by simpa using by omega)
  have b1 : ((s[1]'(by omega)).toNat : Int) = bt s 1 := bt_at s 1 (by simpa using by omega)

  have htl : t.size ≤ 1000000000 := by rw [htd]; rw [ByteArray.size_extract]; omega
  have hall1 := all_one 31 pDec s w (by omega) ok_pDec 1
  obtain ⟨ok1, hok1⟩ : ∃ x, allB pDec 1 s = x := ⟨_, rfl⟩
  rw [hok1] at hall1
  clear hok1
  have hex1 : s.extract 2 s.size = t := htd.symm
  have HTD := Lib.hid htd
  clear htd
  cases ok2 with
  | false =>
    rw [numAns_no rfl]
    go_enter Tryd.func24, Tryd.ntmps24
    go_wp2_with fail
    refine hall1.mono ?_
    rintro e w1 ⟨rfl, hb1⟩
    have HB1 := Lib.hid hb1
    clear hb1 hall1
    obtain ⟨W2_, hW2_⟩ : ∃ W2_, W2_ = w1.drew := ⟨_, rfl⟩
    have HB2_ := Lib.hid (show Below w.heap.size w W2_ by rw [hW2_]; exact HB1.out.trans ((Below.refl _ w1).drew.mono HB1.out.size))
    have hall2 := all_two 31 38 pHex t W2_ (by omega) ok_pHex 2
    rw [hok] at hall2
    go_wp2_with fail
    refine start_ (n := 4) (S := fun w' => True) (ds := []) #[false, false, false, false] (by kernel_rfl) rfl rfl trivial (fun hHeld => ?_)
    rw [← hW2_]
    clear hW2_
    refine pure_ (i := 0) (N := some 30) (v := ?_) (a' := ?_) #[true, false, false, false] rfl rfl (by kernel_rfl) (fun _ _ _ h => h) (Or.inl ⟨by rfl, ?_⟩) ?_ ?_
    rotate_left
    · intro w'
      go_simp
      with_reducible rfl
    rotate_left
    · simp only [Act.put, List.setIfInBounds_toArray, List.set_cons_zero, List.set_cons_succ, i64_w, i32_w]
      rfl
    refine pure_ (i := 1) (N := some 31) (v := ?_) (a' := ?_) #[true, true, false, false] rfl rfl (by kernel_rfl) (fun _ _ _ h => h) (Or.inl ⟨by rfl, ?_⟩) ?_ ?_
    rotate_left
    · intro w'
      go_simp
      with_reducible rfl
    rotate_left
    · simp only [Act.put, List.setIfInBounds_toArray, List.set_cons_zero, List.set_cons_succ, i64_w, i32_w]
      rfl
    refine pure_ (i := 2) (N := some 4) (v := ?_) (a' := ?_) #[true, true, true, false] rfl rfl (by kernel_rfl) (fun _ _ _ h => h) (Or.inl ⟨by rfl, ?_⟩) ?_ ?_
    rotate_left
    · intro w'
      go_simp
      with_reducible rfl
    rotate_left
    · simp only [Act.put, List.setIfInBounds_toArray, List.set_cons_zero, List.set_cons_succ, i64_w, i32_w]
      rfl
    refine pure_ (i := 3) (N := some 0) (v := ?_) (a' := ?_) #[true, true, true, true] rfl rfl (by kernel_rfl) (fun _ _ _ h => h) (Or.inl ⟨by rfl, ?_⟩) ?_ ?_
    rotate_left
    · intro w'
      go_simp
      with_reducible rfl
    rotate_left
    · simp only [Act.put, List.setIfInBounds_toArray, List.set_cons_zero, List.set_cons_succ, i64_w, i32_w]
      rfl
    refine done_ (by kernel_rfl) ?_
    go_wp2_with fail
    refine hall2.mono ?_
    rintro e w2 ⟨rfl, hb2⟩
    have HBK := Lib.hid (HB2_.out.trans (hb2.mono HB2_.out.size))
    clear hb2 hall2
    go_wp2
    go_ret2
    exact ⟨rfl, HBK.out⟩
  | true =>
    by_cases ht : t.size = 0
    · have hte : (t.toList == ([] : List UInt8)) = true := by rw [tl_em ht, Go.ByteArray.toList_eq]; rfl
      rw [numAns_empty ht]
      go_enter Tryd.func24, Tryd.ntmps24
      go_wp2_with fail
      refine hall1.mono ?_
      rintro e w1 ⟨rfl, hb1⟩
      have HB1 := Lib.hid hb1
      clear hb1 hall1
      obtain ⟨W2_, hW2_⟩ : ∃ W2_, W2_ = w1.drew := ⟨_, rfl⟩
      have HB2_ := Lib.hid (show Below w.heap.size w W2_ by rw [hW2_]; exact HB1.out.trans ((Below.refl _ w1).drew.mono HB1.out.size))
      have hall2 := all_two 31 38 pHex t W2_ (by omega) ok_pHex 2
      rw [hok] at hall2
      go_wp2_with fail
      refine start_ (n := 4) (S := fun w' => True) (ds := []) #[false, false, false, false] (by kernel_rfl) rfl rfl trivial (fun hHeld => ?_)
      rw [← hW2_]
      clear hW2_
      refine pure_ (i := 0) (N := some 30) (v := ?_) (a' := ?_) #[true, false, false, false] rfl rfl (by kernel_rfl) (fun _ _ _ h => h) (Or.inl ⟨by rfl, ?_⟩) ?_ ?_
      rotate_left
      · intro w'
        go_simp
        with_reducible rfl
      rotate_left
      · simp only [Act.put, List.setIfInBounds_toArray, List.set_cons_zero, List.set_cons_succ, i64_w, i32_w]
        rfl
      refine pure_ (i := 1) (N := some 31) (v := ?_) (a' := ?_) #[true, true, false, false] rfl rfl (by kernel_rfl) (fun _ _ _ h => h) (Or.inl ⟨by rfl, ?_⟩) ?_ ?_
      rotate_left
      · intro w'
        go_simp
        with_reducible rfl
      rotate_left
      · simp only [Act.put, List.setIfInBounds_toArray, List.set_cons_zero, List.set_cons_succ, i64_w, i32_w]
        rfl
      refine pure_ (i := 2) (N := some 4) (v := ?_) (a' := ?_) #[true, true, true, false] rfl rfl (by kernel_rfl) (fun _ _ _ h => h) (Or.inl ⟨by rfl, ?_⟩) ?_ ?_
      rotate_left
      · intro w'
        go_simp
        with_reducible rfl
      rotate_left
      · simp only [Act.put, List.setIfInBounds_toArray, List.set_cons_zero, List.set_cons_succ, i64_w, i32_w]
        rfl
      refine pure_ (i := 3) (N := some 0) (v := ?_) (a' := ?_) #[true, true, true, true] rfl rfl (by kernel_rfl) (fun _ _ _ h => h) (Or.inl ⟨by rfl, ?_⟩) ?_ ?_
      rotate_left
      · intro w'
        go_simp
        with_reducible rfl
      rotate_left
      · simp only [Act.put, List.setIfInBounds_toArray, List.set_cons_zero, List.set_cons_succ, i64_w, i32_w]
        rfl
      refine done_ (by kernel_rfl) ?_
      go_wp2_with fail
      refine hall2.mono ?_
      rintro e w2 ⟨rfl, hb2⟩
      have HBK := Lib.hid (HB2_.out.trans (hb2.mono HB2_.out.size))
      clear hb2 hall2
      go_wp2
      go_ret2
      exact ⟨rfl, HBK.out⟩
    · have hte := tl_ne ht
      cases hR : puAll 16 18446744073709551615 t.data.toList with
      | ok n =>
        rw [numAns_ok ht hR]
        go_enter Tryd.func24, Tryd.ntmps24
        go_wp2_with fail
        refine hall1.mono ?_
        rintro e w1 ⟨rfl, hb1⟩
        have HB1 := Lib.hid hb1
        clear hb1 hall1
        obtain ⟨W2_, hW2_⟩ : ∃ W2_, W2_ = w1.drew := ⟨_, rfl⟩
        have HB2_ := Lib.hid (show Below w.heap.size w W2_ by rw [hW2_]; exact HB1.out.trans ((Below.refl _ w1).drew.mono HB1.out.size))
        have hall2 := all_two 31 38 pHex t W2_ (by omega) ok_pHex 2
        rw [hok] at hall2
        go_wp2_with fail
        refine start_ (n := 4) (S := fun w' => True) (ds := []) #[false, false, false, false] (by kernel_rfl) rfl rfl trivial (fun hHeld => ?_)
        rw [← hW2_]
        clear hW2_
        refine pure_ (i := 0) (N := some 30) (v := ?_) (a' := ?_) #[true, false, false, false] rfl rfl (by kernel_rfl) (fun _ _ _ h => h) (Or.inl ⟨by rfl, ?_⟩) ?_ ?_
        rotate_left
        · intro w'
          go_simp
          with_reducible rfl
        rotate_left
        · simp only [Act.put, List.setIfInBounds_toArray, List.set_cons_zero, List.set_cons_succ, i64_w, i32_w]
          rfl
        refine pure_ (i := 1) (N := some 31) (v := ?_) (a' := ?_) #[true, true, false, false] rfl rfl (by kernel_rfl) (fun _ _ _ h => h) (Or.inl ⟨by rfl, ?_⟩) ?_ ?_
        rotate_left
        · intro w'
          go_simp
          with_reducible rfl
        rotate_left
        · simp only [Act.put, List.setIfInBounds_toArray, List.set_cons_zero, List.set_cons_succ, i64_w, i32_w]
          rfl
        refine pure_ (i := 2) (N := some 4) (v := ?_) (a' := ?_) #[true, true, true, false] rfl rfl (by kernel_rfl) (fun _ _ _ h => h) (Or.inl ⟨by rfl, ?_⟩) ?_ ?_
        rotate_left
        · intro w'
          go_simp
          with_reducible rfl
        rotate_left
        · simp only [Act.put, List.setIfInBounds_toArray, List.set_cons_zero, List.set_cons_succ, i64_w, i32_w]
          rfl
        refine pure_ (i := 3) (N := some 0) (v := ?_) (a' := ?_) #[true, true, true, true] rfl rfl (by kernel_rfl) (fun _ _ _ h => h) (Or.inl ⟨by rfl, ?_⟩) ?_ ?_
        rotate_left
        · intro w'
          go_simp
          with_reducible rfl
        rotate_left
        · simp only [Act.put, List.setIfInBounds_toArray, List.set_cons_zero, List.set_cons_succ, i64_w, i32_w]
          rfl
        refine done_ (by kernel_rfl) ?_
        go_wp2_with fail
        refine hall2.mono ?_
        rintro e w2 ⟨rfl, hb2⟩
        have HBK := Lib.hid (HB2_.out.trans (hb2.mono HB2_.out.size))
        clear hb2 hall2
        have hTB := UTabs.below HT.out HBK.out
        obtain ⟨ev, hv, hev⟩ := hTB.2.2.2.1
        obtain ⟨ev1, hv1, hev1⟩ := hTB.2.2.2.2
        clear hTB
        have hpu := parseUint_16_64 Tryd.laysPu_14 t (by omega) ev ev1 w2 hv hev hv1 hev1
        clear hv hev hv1 hev1
        rw [hR] at hpu
        go_wp2_with fail
        refine hpu.mono ?_
        rintro e w3 ⟨u, er, rfl, hb3, hu⟩
        obtain ⟨rfl, rfl⟩ := hu
        have HB3 := Lib.hid (HBK.out.trans (hb3.mono HBK.out.size))
        clear hb3 hpu
        go_wp2
        go_ret2
        exact ⟨rfl, HB3.out⟩
      | «syntax» =>
        rw [numAns_big ht (fun n hn => by rw [hR] at hn; cases hn)]
        go_enter Tryd.func24, Tryd.ntmps24
        go_wp2_with fail
        refine hall1.mono ?_
        rintro e w1 ⟨rfl, hb1⟩
        have HB1 := Lib.hid hb1
        clear hb1 hall1
        obtain ⟨W2_, hW2_⟩ : ∃ W2_, W2_ = w1.drew := ⟨_, rfl⟩
        have HB2_ := Lib.hid (show Below w.heap.size w W2_ by rw [hW2_]; exact HB1.out.trans ((Below.refl _ w1).drew.mono HB1.out.size))
        have hall2 := all_two 31 38 pHex t W2_ (by omega) ok_pHex 2
        rw [hok] at hall2
        go_wp2_with fail
        refine start_ (n := 4) (S := fun w' => True) (ds := []) #[false, false, false, false] (by kernel_rfl) rfl rfl trivial (fun hHeld => ?_)
        rw [← hW2_]
        clear hW2_
        refine pure_ (i := 0) (N := some 30) (v := ?_) (a' := ?_) #[true, false, false, false] rfl rfl (by kernel_rfl) (fun _ _ _ h => h) (Or.inl ⟨by rfl, ?_⟩) ?_ ?_
        rotate_left
        · intro w'
          go_simp
          with_reducible rfl
        rotate_left
        · simp only [Act.put, List.setIfInBounds_toArray, List.set_cons_zero, List.set_cons_succ, i64_w, i32_w]
          rfl
        refine pure_ (i := 1) (N := some 31) (v := ?_) (a' := ?_) #[true, true, false, false] rfl rfl (by kernel_rfl) (fun _ _ _ h => h) (Or.inl ⟨by rfl, ?_⟩) ?_ ?_
        rotate_left
        · intro w'
          go_simp
          with_reducible rfl
        rotate_left
        · simp only [Act.put, List.setIfInBounds_toArray, List.set_cons_zero, List.set_cons_succ, i64_w, i32_w]
          rfl
        refine pure_ (i := 2) (N := some 4) (v := ?_) (a' := ?_) #[true, true, true, false] rfl rfl (by kernel_rfl) (fun _ _ _ h => h) (Or.inl ⟨by rfl, ?_⟩) ?_ ?_
        rotate_left
        · intro w'
          go_simp
          with_reducible rfl
        rotate_left
        · simp only [Act.put, List.setIfInBounds_toArray, List.set_cons_zero, List.set_cons_succ, i64_w, i32_w]
          rfl
        refine pure_ (i := 3) (N := some 0) (v := ?_) (a' := ?_) #[true, true, true, true] rfl rfl (by kernel_rfl) (fun _ _ _ h => h) (Or.inl ⟨by rfl, ?_⟩) ?_ ?_
        rotate_left
        · intro w'
          go_simp
          with_reducible rfl
        rotate_left
        · simp only [Act.put, List.setIfInBounds_toArray, List.set_cons_zero, List.set_cons_succ, i64_w, i32_w]
          rfl
        refine done_ (by kernel_rfl) ?_
        go_wp2_with fail
        refine hall2.mono ?_
        rintro e w2 ⟨rfl, hb2⟩
        have HBK := Lib.hid (HB2_.out.trans (hb2.mono HB2_.out.size))
        clear hb2 hall2
        have hTB := UTabs.below HT.out HBK.out
        obtain ⟨ev, hv, hev⟩ := hTB.2.2.2.1
        obtain ⟨ev1, hv1, hev1⟩ := hTB.2.2.2.2
        clear hTB
        have hpu := parseUint_16_64 Tryd.laysPu_14 t (by omega) ev ev1 w2 hv hev hv1 hev1
        clear hv hev hv1 hev1
        rw [hR] at hpu
        go_wp2_with fail
        refine hpu.mono ?_
        rintro e w3 ⟨u, er, rfl, hb3, hu⟩
        obtain ⟨T_, N_, rfl⟩ := hu
        have HB3 := Lib.hid (HBK.out.trans (hb3.mono HBK.out.size))
        clear hb3 hpu
        go_wp2
        go_ret2
        exact ⟨rfl, HB3.out⟩
      | range =>
        rw [numAns_big ht (fun n hn => by rw [hR] at hn; cases hn)]
        go_enter Tryd.func24, Tryd.ntmps24
        go_wp2_with fail
        refine hall1.mono ?_
        rintro e w1 ⟨rfl, hb1⟩
        have HB1 := Lib.hid hb1
        clear hb1 hall1
        obtain ⟨W2_, hW2_⟩ : ∃ W2_, W2_ = w1.drew := ⟨_, rfl⟩
        have HB2_ := Lib.hid (show Below w.heap.size w W2_ by rw [hW2_]; exact HB1.out.trans ((Below.refl _ w1).drew.mono HB1.out.size))
        have hall2 := all_two 31 38 pHex t W2_ (by omega) ok_pHex 2
        rw [hok] at hall2
        go_wp2_with fail
        refine start_ (n := 4) (S := fun w' => True) (ds := []) #[false, false, false, false] (by kernel_rfl) rfl rfl trivial (fun hHeld => ?_)
        rw [← hW2_]
        clear hW2_
        refine pure_ (i := 0) (N := some 30) (v := ?_) (a' := ?_) #[true, false, false, false] rfl rfl (by kernel_rfl) (fun _ _ _ h => h) (Or.inl ⟨by rfl, ?_⟩) ?_ ?_
        rotate_left
        · intro w'
          go_simp
          with_reducible rfl
        rotate_left
        · simp only [Act.put, List.setIfInBounds_toArray, List.set_cons_zero, List.set_cons_succ, i64_w, i32_w]
          rfl
        refine pure_ (i := 1) (N := some 31) (v := ?_) (a' := ?_) #[true, true, false, false] rfl rfl (by kernel_rfl) (fun _ _ _ h => h) (Or.inl ⟨by rfl, ?_⟩) ?_ ?_
        rotate_left
        · intro w'
          go_simp
          with_reducible rfl
        rotate_left
        · simp only [Act.put, List.setIfInBounds_toArray, List.set_cons_zero, List.set_cons_succ, i64_w, i32_w]
          rfl
        refine pure_ (i := 2) (N := some 4) (v := ?_) (a' := ?_) #[true, true, true, false] rfl rfl (by kernel_rfl) (fun _ _ _ h => h) (Or.inl ⟨by rfl, ?_⟩) ?_ ?_
        rotate_left
        · intro w'
          go_simp
          with_reducible rfl
        rotate_left
        · simp only [Act.put, List.setIfInBounds_toArray, List.set_cons_zero, List.set_cons_succ, i64_w, i32_w]
          rfl
        refine pure_ (i := 3) (N := some 0) (v := ?_) (a' := ?_) #[true, true, true, true] rfl rfl (by kernel_rfl) (fun _ _ _ h => h) (Or.inl ⟨by rfl, ?_⟩) ?_ ?_
        rotate_left
        · intro w'
          go_simp
          with_reducible rfl
        rotate_left
        · simp only [Act.put, List.setIfInBounds_toArray, List.set_cons_zero, List.set_cons_succ, i64_w, i32_w]
          rfl
        refine done_ (by kernel_rfl) ?_
        go_wp2_with fail
        refine hall2.mono ?_
        rintro e w2 ⟨rfl, hb2⟩
        have HBK := Lib.hid (HB2_.out.trans (hb2.mono HB2_.out.size))
        clear hb2 hall2
        have hTB := UTabs.below HT.out HBK.out
        obtain ⟨ev, hv, hev⟩ := hTB.2.2.2.1
        obtain ⟨ev1, hv1, hev1⟩ := hTB.2.2.2.2
        clear hTB
        have hpu := parseUint_16_64 Tryd.laysPu_14 t (by omega) ev ev1 w2 hv hev hv1 hev1
        clear hv hev hv1 hev1
        rw [hR] at hpu
        go_wp2_with fail
        refine hpu.mono ?_
        rintro e w3 ⟨u, er, rfl, hb3, hu⟩
        obtain ⟨T_, N_, rfl⟩ := hu
        have HB3 := Lib.hid (HBK.out.trans (hb3.mono HBK.out.size))
        clear hb3 hpu
        go_wp2
        go_ret2
        exact ⟨rfl, HB3.out⟩
set_option maxHeartbeats 8000000 in
theorem number_oct (s t : ByteArray) (ok2 : Bool) (hs : s.size ≤ 1000000000) (w : World) (hT : UTabs w) (h1 : 1 < s.size) (c0 : bt s 0 = 48) (c1 : Go.bits .or .u8 (bt s 1) 32 ≠ 120) (htd : t = s.extract 1 s.size) (hok : allB pOct 1 t = ok2) :
    Calls Tryd.prog 24 #[.string s] w fun e w' => e = .returned (.tuple #[.int .u64 (numAns 8 ok2 t).1, .bool (numAns 8 ok2 t).2]) ∧ Below w.heap.size w w' := by
  have HT := Lib.hid hT
  clear hT
  have e30 : ∀ args w, (callFunc 30 args).run Tryd.prog w = .ok (.enter 30 args) w := enters_of Tryd.func30 (by kernel_rfl) rfl
  have e40 : ∀ args w, (callFunc 40 args).run Tryd.prog w = .ok (.enter 40 args) w := enters_of Tryd.func40 (by kernel_rfl) rfl
  have h0 : ¬ s.size = 0 := by omega
  have hne := tl_ne h0
  have hi2 : (2 ≤ (s.size : Int)) = True := eq_true (by omega)
  have hi1 : (1 ≤ (s.size : Int)) = True := eq_true (by omega)
  have b0 : ((s[0]'(by omega)).toNat : Int) = bt s 0 := bt_at s 0 (by simpa using by omega)
  have b1 : ((s[1]'(by omega)).toNat : Int) = bt s 1 := bt_at s 1 (by simpa using by omega)

  have htl : t.size ≤ 1000000000 := by rw [htd]; rw [ByteArray.size_extract]; omega
  have hall1 := all_one 31 pDec s w (by omega) ok_pDec 1
  obtain ⟨ok1, hok1⟩ : ∃ x, allB pDec 1 s = x := ⟨_, rfl⟩
  rw [hok1] at hall1
  clear hok1
  have hex1 : s.extract 1 s.size = t := htd.symm
  have HTD := Lib.hid htd
  clear htd
  cases ok2 with
  | false =>
    rw [numAns_no rfl]
    go_enter Tryd.func24, Tryd.ntmps24
    go_wp2_with fail
    refine hall1.mono ?_
    rintro e w1 ⟨rfl, hb1⟩
    have HB1 := Lib.hid hb1
    clear hb1 hall1
    obtain ⟨W2_, hW2_⟩ : ∃ W2_, W2_ = w1.drew := ⟨_, rfl⟩
    have HB2_ := Lib.hid (show Below w.heap.size w W2_ by rw [hW2_]; exact HB1.out.trans ((Below.refl _ w1).drew.mono HB1.out.size))
    have hall2 := all_one 39 pOct t W2_ (by omega) ok_pOct 1
    rw [hok] at hall2
    go_wp2_with fail
    refine start_ (n := 4) (S := fun w' => True) (ds := []) #[false, false, false, false] (by kernel_rfl) rfl rfl trivial (fun hHeld => ?_)
    rw [← hW2_]
    clear hW2_
    refine pure_ (i := 0) (N := some 44) (v := ?_) (a' := ?_) #[true, false, false, false] rfl rfl (by kernel_rfl) (fun _ _ _ h => h) (Or.inl ⟨by rfl, ?_⟩) ?_ ?_
    rotate_left
    · intro w'
      go_simp
      with_reducible rfl
    rotate_left
    · simp only [Act.put, List.setIfInBounds_toArray, List.set_cons_zero, List.set_cons_succ, i64_w, i32_w]
      rfl
    refine pure_ (i := 1) (N := some 45) (v := ?_) (a' := ?_) #[true, true, false, false] rfl rfl (by kernel_rfl) (fun _ _ _ h => h) (Or.inl ⟨by rfl, ?_⟩) ?_ ?_
    rotate_left
    · intro w'
      go_simp
      with_reducible rfl
    rotate_left
    · simp only [Act.put, List.setIfInBounds_toArray, List.set_cons_zero, List.set_cons_succ, i64_w, i32_w]
      rfl
    refine pure_ (i := 2) (N := some 4) (v := ?_) (a' := ?_) #[true, true, true, false] rfl rfl (by kernel_rfl) (fun _ _ _ h => h) (Or.inl ⟨by rfl, ?_⟩) ?_ ?_
    rotate_left
    · intro w'
      go_simp
      with_reducible rfl
    rotate_left
    · simp only [Act.put, List.setIfInBounds_toArray, List.set_cons_zero, List.set_cons_succ, i64_w, i32_w]
      rfl
    refine pure_ (i := 3) (N := some 0) (v := ?_) (a' := ?_) #[true, true, true, true] rfl rfl (by kernel_rfl) (fun _ _ _ h => h) (Or.inl ⟨by rfl, ?_⟩) ?_ ?_
    rotate_left
    · intro w'
      go_simp
      with_reducible rfl
    rotate_left
    · simp only [Act.put, List.setIfInBounds_toArray, List.set_cons_zero, List.set_cons_succ, i64_w, i32_w]
      rfl
    refine done_ (by kernel_rfl) ?_
    go_wp2_with fail
    refine hall2.mono ?_
    rintro e w2 ⟨rfl, hb2⟩
    have HBK := Lib.hid (HB2_.out.trans (hb2.mono HB2_.out.size))
    clear hb2 hall2
    go_wp2
    go_ret2
    exact ⟨rfl, HBK.out⟩
  | true =>
    by_cases ht : t.size = 0
    · have hte : (t.toList == ([] : List UInt8)) = true := by rw [tl_em ht, Go.ByteArray.toList_eq]; rfl
      exfalso
      rw [HTD.out, ByteArray.size_extract] at ht
      omega
    · have hte := tl_ne ht
      cases hR : puAll 8 18446744073709551615 t.data.toList with
      | ok n =>
        rw [numAns_ok ht hR]
        go_enter Tryd.func24, Tryd.ntmps24
        go_wp2_with fail
        refine hall1.mono ?_
        rintro e w1 ⟨rfl, hb1⟩
        have HB1 := Lib.hid hb1
        clear hb1 hall1
        obtain ⟨W2_, hW2_⟩ : ∃ W2_, W2_ = w1.drew := ⟨_, rfl⟩
        have HB2_ := Lib.hid (show Below w.heap.size w W2_ by rw [hW2_]; exact HB1.out.trans ((Below.refl _ w1).drew.mono HB1.out.size))
        have hall2 := all_one 39 pOct t W2_ (by omega) ok_pOct 1
        rw [hok] at hall2
        go_wp2_with fail
        refine start_ (n := 4) (S := fun w' => True) (ds := []) #[false, false, false, false] (by kernel_rfl) rfl rfl trivial (fun hHeld => ?_)
        rw [← hW2_]
        clear hW2_
        refine pure_ (i := 0) (N := some 44) (v := ?_) (a' := ?_) #[true, false, false, false] rfl rfl (by kernel_rfl) (fun _ _ _ h => h) (Or.inl ⟨by rfl, ?_⟩) ?_ ?_
        rotate_left
        · intro w'
          go_simp
          with_reducible rfl
        rotate_left
        · simp only [Act.put, List.setIfInBounds_toArray, List.set_cons_zero, List.set_cons_succ, i64_w, i32_w]
          rfl
        refine pure_ (i := 1) (N := some 45) (v := ?_) (a' := ?_) #[true, true, false, false] rfl rfl (by kernel_rfl) (fun _ _ _ h => h) (Or.inl ⟨by rfl, ?_⟩) ?_ ?_
        rotate_left
        · intro w'
          go_simp
          with_reducible rfl
        rotate_left
        · simp only [Act.put, List.setIfInBounds_toArray, List.set_cons_zero, List.set_cons_succ, i64_w, i32_w]
          rfl
        refine pure_ (i := 2) (N := some 4) (v := ?_) (a' := ?_) #[true, true, true, false] rfl rfl (by kernel_rfl) (fun _ _ _ h => h) (Or.inl ⟨by rfl, ?_⟩) ?_ ?_
        rotate_left
        · intro w'
          go_simp
          with_reducible rfl
        rotate_left
        · simp only [Act.put, List.setIfInBounds_toArray, List.set_cons_zero, List.set_cons_succ, i64_w, i32_w]
          rfl
        refine pure_ (i := 3) (N := some 0) (v := ?_) (a' := ?_) #[true, true, true, true] rfl rfl (by kernel_rfl) (fun _ _ _ h => h) (Or.inl ⟨by rfl, ?_⟩) ?_ ?_
        rotate_left
        · intro w'
          go_simp
          with_reducible rfl
        rotate_left
        · simp only [Act.put, List.setIfInBounds_toArray, List.set_cons_zero, List.set_cons_succ, i64_w, i32_w]
          rfl
        refine done_ (by kernel_rfl) ?_
        go_wp2_with fail
        refine hall2.mono ?_
        rintro e w2 ⟨rfl, hb2⟩
        have HBK := Lib.hid (HB2_.out.trans (hb2.mono HB2_.out.size))
        clear hb2 hall2
        have hTB := UTabs.below HT.out HBK.out
        obtain ⟨ev, hv, hev⟩ := hTB.2.2.2.1
        obtain ⟨ev1, hv1, hev1⟩ := hTB.2.2.2.2
        clear hTB
        have hpu := parseUint_8_64 Tryd.laysPu_14 t (by omega) ev ev1 w2 hv hev hv1 hev1
        clear hv hev hv1 hev1
        rw [hR] at hpu
        go_wp2_with fail
        refine hpu.mono ?_
        rintro e w3 ⟨u, er, rfl, hb3, hu⟩
        obtain ⟨rfl, rfl⟩ := hu
        have HB3 := Lib.hid (HBK.out.trans (hb3.mono HBK.out.size))
        clear hb3 hpu
        go_wp2
        go_ret2
        exact ⟨rfl, HB3.out⟩
      | «syntax» =>
        rw [numAns_big ht (fun n hn => by rw [hR] at hn; cases hn)]
        go_enter Tryd.func24, Tryd.ntmps24
        go_wp2_with fail
        refine hall1.mono ?_
        rintro e w1 ⟨rfl, hb1⟩
        have HB1 := Lib.hid hb1
        clear hb1 hall1
        obtain ⟨W2_, hW2_⟩ : ∃ W2_, W2_ = w1.drew := ⟨_, rfl⟩
        have HB2_ := Lib.hid (show Below w.heap.size w W2_ by rw [hW2_]; exact HB1.out.trans ((Below.refl _ w1).drew.mono HB1.out.size))
        have hall2 := all_one 39 pOct t W2_ (by omega) ok_pOct 1
        rw [hok] at hall2
        go_wp2_with fail
        refine start_ (n := 4) (S := fun w' => True) (ds := []) #[false, false, false, false] (by kernel_rfl) rfl rfl trivial (fun hHeld => ?_)
        rw [← hW2_]
        clear hW2_
        refine pure_ (i := 0) (N := some 44) (v := ?_) (a' := ?_) #[true, false, false, false] rfl rfl (by kernel_rfl) (fun _ _ _ h => h) (Or.inl ⟨by rfl, ?_⟩) ?_ ?_
        rotate_left
        · intro w'
          go_simp
          with_reducible rfl
        rotate_left
        · simp only [Act.put, List.setIfInBounds_toArray, List.set_cons_zero, List.set_cons_succ, i64_w, i32_w]
          rfl
        refine pure_ (i := 1) (N := some 45) (v := ?_) (a' := ?_) #[true, true, false, false] rfl rfl (by kernel_rfl) (fun _ _ _ h => h) (Or.inl ⟨by rfl, ?_⟩) ?_ ?_
        rotate_left
        · intro w'
          go_simp
          with_reducible rfl
        rotate_left
        · simp only [Act.put, List.setIfInBounds_toArray, List.set_cons_zero, List.set_cons_succ, i64_w, i32_w]
          rfl
        refine pure_ (i := 2) (N := some 4) (v := ?_) (a' := ?_) #[true, true, true, false] rfl rfl (by kernel_rfl) (fun _ _ _ h => h) (Or.inl ⟨by rfl, ?_⟩) ?_ ?_
        rotate_left
        · intro w'
          go_simp
          with_reducible rfl
        rotate_left
        · simp only [Act.put, List.setIfInBounds_toArray, List.set_cons_zero, List.set_cons_succ, i64_w, i32_w]
          rfl
        refine pure_ (i := 3) (N := some 0) (v := ?_) (a' := ?_) #[true, true, true, true] rfl rfl (by kernel_rfl) (fun _ _ _ h => h) (Or.inl ⟨by rfl, ?_⟩) ?_ ?_
        rotate_left
        · intro w'
          go_simp
          with_reducible rfl
        rotate_left
        · simp only [Act.put, List.setIfInBounds_toArray, List.set_cons_zero, List.set_cons_succ, i64_w, i32_w]
          rfl
        refine done_ (by kernel_rfl) ?_
        go_wp2_with fail
        refine hall2.mono ?_
        rintro e w2 ⟨rfl, hb2⟩
        have HBK := Lib.hid (HB2_.out.trans (hb2.mono HB2_.out.size))
        clear hb2 hall2
        have hTB := UTabs.below HT.out HBK.out
        obtain ⟨ev, hv, hev⟩ := hTB.2.2.2.1
        obtain ⟨ev1, hv1, hev1⟩ := hTB.2.2.2.2
        clear hTB
        have hpu := parseUint_8_64 Tryd.laysPu_14 t (by omega) ev ev1 w2 hv hev hv1 hev1
        clear hv hev hv1 hev1
        rw [hR] at hpu
        go_wp2_with fail
        refine hpu.mono ?_
        rintro e w3 ⟨u, er, rfl, hb3, hu⟩
        obtain ⟨T_, N_, rfl⟩ := hu
        have HB3 := Lib.hid (HBK.out.trans (hb3.mono HBK.out.size))
        clear hb3 hpu
        go_wp2
        go_ret2
        exact ⟨rfl, HB3.out⟩
      | range =>
        rw [numAns_big ht (fun n hn => by rw [hR] at hn; cases hn)]
        go_enter Tryd.func24, Tryd.ntmps24
        go_wp2_with fail
        refine hall1.mono ?_
        rintro e w1 ⟨rfl, hb1⟩
        have HB1 := Lib.hid hb1
        clear hb1 hall1
        obtain ⟨W2_, hW2_⟩ : ∃ W2_, W2_ = w1.drew := ⟨_, rfl⟩
        have HB2_ := Lib.hid (show Below w.heap.size w W2_ by rw [hW2_]; exact HB1.out.trans ((Below.refl _ w1).drew.mono HB1.out.size))
        have hall2 := all_one 39 pOct t W2_ (by omega) ok_pOct 1
        rw [hok] at hall2
        go_wp2_with fail
        refine start_ (n := 4) (S := fun w' => True) (ds := []) #[false, false, false, false] (by kernel_rfl) rfl rfl trivial (fun hHeld => ?_)
        rw [← hW2_]
        clear hW2_
        refine pure_ (i := 0) (N := some 44) (v := ?_) (a' := ?_) #[true, false, false, false] rfl rfl (by kernel_rfl) (fun _ _ _ h => h) (Or.inl ⟨by rfl, ?_⟩) ?_ ?_
        rotate_left
        · intro w'
          go_simp
          with_reducible rfl
        rotate_left
        · simp only [Act.put, List.setIfInBounds_toArray, List.set_cons_zero, List.set_cons_succ, i64_w, i32_w]
          rfl
        refine pure_ (i := 1) (N := some 45) (v := ?_) (a' := ?_) #[true, true, false, false] rfl rfl (by kernel_rfl) (fun _ _ _ h => h) (Or.inl ⟨by rfl, ?_⟩) ?_ ?_
        rotate_left
        · intro w'
          go_simp
          with_reducible rfl
        rotate_left
        · simp only [Act.put, List.setIfInBounds_toArray, List.set_cons_zero, List.set_cons_succ, i64_w, i32_w]
          rfl
        refine pure_ (i := 2) (N := some 4) (v := ?_) (a' := ?_) #[true, true, true, false] rfl rfl (by kernel_rfl) (fun _ _ _ h => h) (Or.inl ⟨by rfl, ?_⟩) ?_ ?_
        rotate_left
        · intro w'
          go_simp
          with_reducible rfl
        rotate_left
        · simp only [Act.put, List.setIfInBounds_toArray, List.set_cons_zero, List.set_cons_succ, i64_w, i32_w]
          rfl
        refine pure_ (i := 3) (N := some 0) (v := ?_) (a' := ?_) #[true, true, true, true] rfl rfl (by kernel_rfl) (fun _ _ _ h => h) (Or.inl ⟨by rfl, ?_⟩) ?_ ?_
        rotate_left
        · intro w'
          go_simp
          with_reducible rfl
        rotate_left
        · simp only [Act.put, List.setIfInBounds_toArray, List.set_cons_zero, List.set_cons_succ, i64_w, i32_w]
          rfl
        refine done_ (by kernel_rfl) ?_
        go_wp2_with fail
        refine hall2.mono ?_
        rintro e w2 ⟨rfl, hb2⟩
        have HBK := Lib.hid (HB2_.out.trans (hb2.mono HB2_.out.size))
        clear hb2 hall2
        have hTB := UTabs.below HT.out HBK.out
        obtain ⟨ev, hv, hev⟩ := hTB.2.2.2.1
        obtain ⟨ev1, hv1, hev1⟩ := hTB.2.2.2.2
        clear hTB
        have hpu := parseUint_8_64 Tryd.laysPu_14 t (by omega) ev ev1 w2 hv hev hv1 hev1
        clear hv hev hv1 hev1
        rw [hR] at hpu
        go_wp2_with fail
        refine hpu.mono ?_
        rintro e w3 ⟨u, er, rfl, hb3, hu⟩
        obtain ⟨T_, N_, rfl⟩ := hu
        have HB3 := Lib.hid (HBK.out.trans (hb3.mono HBK.out.size))
        clear hb3 hpu
        go_wp2
        go_ret2
        exact ⟨rfl, HB3.out⟩
set_option maxHeartbeats 8000000 in
theorem number_dec1 (s : ByteArray) (ok2 : Bool) (hs : s.size ≤ 1000000000) (w : World) (hT : UTabs w) (h1 : s.size = 1) (hok : allB pDec 1 s = ok2) :
    Calls Tryd.prog 24 #[.string s] w fun e w' => e = .returned (.tuple #[.int .u64 (numAns 10 ok2 s).1, .bool (numAns 10 ok2 s).2]) ∧ Below w.heap.size w w' := by
  have HT := Lib.hid hT
  clear hT
  have e30 : ∀ args w, (callFunc 30 args).run Tryd.prog w = .ok (.enter 30 args) w := enters_of Tryd.func30 (by kernel_rfl) rfl
  have e40 : ∀ args w, (callFunc 40 args).run Tryd.prog w = .ok (.enter 40 args) w := enters_of Tryd.func40 (by kernel_rfl) rfl
  have h0 : ¬ s.size = 0 := by omega
  have hne := tl_ne h0

  have hall1 := all_one 31 pDec s w (by omega) ok_pDec 1
  rw [hok] at hall1
  cases ok2 with
  | false =>
    rw [numAns_no rfl]
    go_enter Tryd.func24, Tryd.ntmps24
    go_wp2_with fail
    refine hall1.mono ?_
    rintro e w1 ⟨rfl, hb1⟩
    have HBK := Lib.hid hb1
    clear hb1 hall1
    go_wp2
    go_ret2
    exact ⟨rfl, HBK.out⟩
  | true =>
    have ht := h0
    cases hR : puAll 10 18446744073709551615 s.data.toList with
    | ok n =>
      rw [numAns_ok ht hR]
      go_enter Tryd.func24, Tryd.ntmps24
      go_wp2_with fail
      refine hall1.mono ?_
      rintro e w1 ⟨rfl, hb1⟩
      have HBK := Lib.hid hb1
      clear hb1 hall1
      have hTB := UTabs.below HT.out HBK.out
      obtain ⟨ev, hv, hev⟩ := hTB.2.2.2.1
      obtain ⟨ev1, hv1, hev1⟩ := hTB.2.2.2.2
      clear hTB
      have hpu := parseUint_10_64 Tryd.laysPu_14 s (by omega) ev ev1 w1 hv hev hv1 hev1
      clear hv hev hv1 hev1
      rw [hR] at hpu
      go_wp2_with fail
      refine hpu.mono ?_
      rintro e w3 ⟨u, er, rfl, hb3, hu⟩
      obtain ⟨rfl, rfl⟩ := hu
      have HB3 := Lib.hid (HBK.out.trans (hb3.mono HBK.out.size))
      clear hb3 hpu
      go_wp2
      go_ret2
      exact ⟨rfl, HB3.out⟩
    | «syntax» =>
      rw [numAns_big ht (fun n hn => by rw [hR] at hn; cases hn)]
      go_enter Tryd.func24, Tryd.ntmps24
      go_wp2_with fail
      refine hall1.mono ?_
      rintro e w1 ⟨rfl, hb1⟩
      have HBK := Lib.hid hb1
      clear hb1 hall1
      have hTB := UTabs.below HT.out HBK.out
      obtain ⟨ev, hv, hev⟩ := hTB.2.2.2.1
      obtain ⟨ev1, hv1, hev1⟩ := hTB.2.2.2.2
      clear hTB
      have hpu := parseUint_10_64 Tryd.laysPu_14 s (by omega) ev ev1 w1 hv hev hv1 hev1
      clear hv hev hv1 hev1
      rw [hR] at hpu
      go_wp2_with fail
      refine hpu.mono ?_
      rintro e w3 ⟨u, er, rfl, hb3, hu⟩
      obtain ⟨T_, N_, rfl⟩ := hu
      have HB3 := Lib.hid (HBK.out.trans (hb3.mono HBK.out.size))
      clear hb3 hpu
      go_wp2
      go_ret2
      exact ⟨rfl, HB3.out⟩
    | range =>
      rw [numAns_big ht (fun n hn => by rw [hR] at hn; cases hn)]
      go_enter Tryd.func24, Tryd.ntmps24
      go_wp2_with fail
      refine hall1.mono ?_
      rintro e w1 ⟨rfl, hb1⟩
      have HBK := Lib.hid hb1
      clear hb1 hall1
      have hTB := UTabs.below HT.out HBK.out
      obtain ⟨ev, hv, hev⟩ := hTB.2.2.2.1
      obtain ⟨ev1, hv1, hev1⟩ := hTB.2.2.2.2
      clear hTB
      have hpu := parseUint_10_64 Tryd.laysPu_14 s (by omega) ev ev1 w1 hv hev hv1 hev1
      clear hv hev hv1 hev1
      rw [hR] at hpu
      go_wp2_with fail
      refine hpu.mono ?_
      rintro e w3 ⟨u, er, rfl, hb3, hu⟩
      obtain ⟨T_, N_, rfl⟩ := hu
      have HB3 := Lib.hid (HBK.out.trans (hb3.mono HBK.out.size))
      clear hb3 hpu
      go_wp2
      go_ret2
      exact ⟨rfl, HB3.out⟩
set_option maxHeartbeats 8000000 in
theorem number_dec2 (s : ByteArray) (ok2 : Bool) (hs : s.size ≤ 1000000000) (w : World) (hT : UTabs w) (h1 : 1 < s.size) (c0 : bt s 0 ≠ 48) (hok : allB pDec 1 s = ok2) :
    Calls Tryd.prog 24 #[.string s] w fun e w' => e = .returned (.tuple #[.int .u64 (numAns 10 ok2 s).1, .bool (numAns 10 ok2 s).2]) ∧ Below w.heap.size w w' := by
  have HT := Lib.hid hT
  clear hT
  have e30 : ∀ args w, (callFunc 30 args).run Tryd.prog w = .ok (.enter 30 args) w := enters_of Tryd.func30 (by kernel_rfl) rfl
  have e40 : ∀ args w, (callFunc 40 args).run Tryd.prog w = .ok (.enter 40 args) w := enters_of Tryd.func40 (by kernel_rfl) rfl
  have h0 : ¬ s.size = 0 := by omega
  have hne := tl_ne h0
  have b0 : ((s[0]'(by omega)).toNat : Int) = bt s 0 := bt_at s 0 (by simpa using by omega)

  have hall1 := all_one 31 pDec s w (by omega) ok_pDec 1
  rw [hok] at hall1
  cases ok2 with
  | false =>
    rw [numAns_no rfl]
    go_enter Tryd.func24, Tryd.ntmps24
    go_wp2_with fail
    refine hall1.mono ?_
    rintro e w1 ⟨rfl, hb1⟩
    have HBK := Lib.hid hb1
    clear hb1 hall1
    go_wp2
    go_ret2
    exact ⟨rfl, HBK.out⟩
  | true =>
    have ht := h0
    cases hR : puAll 10 18446744073709551615 s.data.toList with
    | ok n =>
      rw [numAns_ok ht hR]
      go_enter Tryd.func24, Tryd.ntmps24
      go_wp2_with fail
      refine hall1.mono ?_
      rintro e w1 ⟨rfl, hb1⟩
      have HBK := Lib.hid hb1
      clear hb1 hall1
      have hTB := UTabs.below HT.out HBK.out
      obtain ⟨ev, hv, hev⟩ := hTB.2.2.2.1
      obtain ⟨ev1, hv1, hev1⟩ := hTB.2.2.2.2
      clear hTB
      have hpu := parseUint_10_64 Tryd.laysPu_14 s (by omega) ev ev1 w1 hv hev hv1 hev1
      clear hv hev hv1 hev1
      rw [hR] at hpu
      go_wp2_with fail
      refine hpu.mono ?_
      rintro e w3 ⟨u, er, rfl, hb3, hu⟩
      obtain ⟨rfl, rfl⟩ := hu
      have HB3 := Lib.hid (HBK.out.trans (hb3.mono HBK.out.size))
      clear hb3 hpu
      go_wp2
      go_ret2
      exact ⟨rfl, HB3.out⟩
    | «syntax» =>
      rw [numAns_big ht (fun n hn => by rw [hR] at hn; cases hn)]
      go_enter Tryd.func24, Tryd.ntmps24
      go_wp2_with fail
      refine hall1.mono ?_
      rintro e w1 ⟨rfl, hb1⟩
      have HBK := Lib.hid hb1
      clear hb1 hall1
      have hTB := UTabs.below HT.out HBK.out
      obtain ⟨ev, hv, hev⟩ := hTB.2.2.2.1
      obtain ⟨ev1, hv1, hev1⟩ := hTB.2.2.2.2
      clear hTB
      have hpu := parseUint_10_64 Tryd.laysPu_14 s (by omega) ev ev1 w1 hv hev hv1 hev1
      clear hv hev hv1 hev1
      rw [hR] at hpu
      go_wp2_with fail
      refine hpu.mono ?_
      rintro e w3 ⟨u, er, rfl, hb3, hu⟩
      obtain ⟨T_, N_, rfl⟩ := hu
      have HB3 := Lib.hid (HBK.out.trans (hb3.mono HBK.out.size))
      clear hb3 hpu
      go_wp2
      go_ret2
      exact ⟨rfl, HB3.out⟩
    | range =>
      rw [numAns_big ht (fun n hn => by rw [hR] at hn; cases hn)]
      go_enter Tryd.func24, Tryd.ntmps24
      go_wp2_with fail
      refine hall1.mono ?_
      rintro e w1 ⟨rfl, hb1⟩
      have HBK := Lib.hid hb1
      clear hb1 hall1
      have hTB := UTabs.below HT.out HBK.out
      obtain ⟨ev, hv, hev⟩ := hTB.2.2.2.1
      obtain ⟨ev1, hv1, hev1⟩ := hTB.2.2.2.2
      clear hTB
      have hpu := parseUint_10_64 Tryd.laysPu_14 s (by omega) ev ev1 w1 hv hev hv1 hev1
      clear hv hev hv1 hev1
      rw [hR] at hpu
      go_wp2_with fail
      refine hpu.mono ?_
      rintro e w3 ⟨u, er, rfl, hb3, hu⟩
      obtain ⟨T_, N_, rfl⟩ := hu
      have HB3 := Lib.hid (HBK.out.trans (hb3.mono HBK.out.size))
      clear hb3 hpu
      go_wp2
      go_ret2
      exact ⟨rfl, HB3.out⟩
set_option maxHeartbeats 8000000 in
theorem number_empty (w : World) : Calls Tryd.prog 24 #[.string ⟨#[]⟩] w fun e w' => e = .returned (.tuple #[.int .u64 0, .bool false]) ∧ Below w.heap.size w w' := by
  go_enter Tryd.func24, Tryd.ntmps24
  go_wp2
  go_ret2
  exact ⟨rfl, Below.refl _ _⟩
theorem number_calls0 (s : ByteArray) (hs : s.size ≤ 1000000000) (w : World) (hT : UTabs w) :
    Calls Tryd.prog 24 #[.string s] w fun e w' => e = .returned (.tuple #[.int .u64 (numP s).1, .bool (numP s).2]) ∧ Below w.heap.size w w' := by
  by_cases h0 : s.size = 0
  · have e := tl_em h0
    have : numP s = (0, false) := by
      unfold numP
      rw [if_neg (by unfold isHex; omega), if_neg (by unfold isOct; omega), decide_eq_false (by omega)]
      exact numAns_no rfl
    rw [this, e]
    exact number_empty w
  · by_cases hx : isHex s
    · have : numP s = numAns 16 (allB pHex 2 (s.extract 2 s.size)) (s.extract 2 s.size) := if_pos hx
      rw [this]
      exact number_hex s _ _ hs w hT hx.1 hx.2.1 hx.2.2 rfl rfl
    · by_cases ho : isOct s
      · have : numP s = numAns 8 (allB pOct 1 (s.extract 1 s.size)) (s.extract 1 s.size) := by unfold numP; rw [if_neg hx, if_pos ho]
        rw [this]
        exact number_oct s _ _ hs w hT ho.1 ho.2 (fun h => hx ⟨ho.1, ho.2, h⟩) rfl rfl
      · have : numP s = numAns 10 (allB pDec 1 s) s := by unfold numP; rw [if_neg hx, if_neg ho, decide_eq_true (by omega)]; rfl
        rw [this]
        by_cases h1 : 1 < s.size
        · exact number_dec2 s _ hs w hT h1 (fun h => ho ⟨h1, h⟩) rfl
        · exact number_dec1 s _ hs w hT (by omega) rfl
end Go.Proofs.YtkabhnbjjnjdhaaDoor.Q
