/- Texts as lists of bytes: how the printed functions' words read at ⟨l.toArray⟩. -/
/- Functions handed in: query.named and its closure, Print's; slices.IndexFunc and ContainsFunc of fields. -/
/- strings.Cut, in print's form. -/
import Derived.Test.YtbcbmmlpgdndpaaDoorSB9
import Derived.Test.YtbcbmmlpgdndpaaDoorSB3
import Derived.PlainAid
import Derived.Laws.BytesArg
import Derived.WalkKit
import Derived.Deep.LoopGhost
import Derived.Lib.Hide
import Derived.Shelf.SlicesQ.Load
import Derived.Shelf.Strings.Cut
section
set_option linter.unusedSimpArgs false
set_option linter.unusedVariables false
namespace Go.Proofs.YtbcbmmlpgdndpaaDoor.Q
open Go.RowKit Go.Proofs.YtbcbmmlpgdndpaaDoorW.PrintWords Go.Proofs.YtbcbmmlpgdndpaaDoorW.PrintLast Go.Proofs.YtbcbmmlpgdndpaaDoorW.PrintMore Go.Proofs.YtbcbmmlpgdndpaaDoor.P1
def B (l : List UInt8) : ByteArray := ⟨l.toArray⟩
theorem B_data (l : List UInt8) : (B l).data.toList = l := rfl
theorem B_size (l : List UInt8) : (B l).size = l.length := rfl
theorem B_toList (l : List UInt8) : (B l).toList = l := by rw [Go.ByteArray.toList_eq]; rfl
theorem B_inj {a b : List UInt8} (h : B a = B b) : a = b := by have := congrArg (fun s => s.data.toList) h; exact this
theorem B_bt (l : List UInt8) (i : Int) : bt (B l) i = ((l.getD i.toNat 0).toNat : Int) := by
  unfold bt
  by_cases h : i.toNat < l.length
  · rw [dif_pos (by rw [B_size]; exact h), List.getD_eq_getElem?_getD, List.getElem?_eq_getElem h]; rfl
  · rw [dif_neg (by rw [B_size]; exact h), List.getD_eq_getElem?_getD, List.getElem?_eq_none (by omega)]; rfl
theorem B_extract (l : List UInt8) (a b : Nat) : (B l).extract a b = B ((l.drop a).take (b - a)) := by
  apply ByteArray.ext
  simp [B, ByteArray.data_extract]
theorem B_extract_end (l : List UInt8) (a : Nat) : (B l).extract a (B l).size = B (l.drop a) := by
  rw [B_extract, B_size, List.take_of_length_le (by simp)]
def ns (l : List UInt8) : List Int := l.map fun c => (c.toNat : Int)
theorem ns_cons (c : UInt8) (l : List UInt8) : ns (c :: l) = (c.toNat : Int) :: ns l := rfl
theorem strOf_ns (l : List UInt8) : strOfNums (ns l) = B l := by
  unfold strOfNums ns B
  rw [List.map_map]
  congr 1
  congr 1
  conv => rhs; rw [← List.map_id l]
  apply List.map_congr_left
  intro c _
  simp
/-- a byte out of its number -/
theorem u8_of (n : Nat) (h : n < 256) : (n.toUInt8).toNat = n := by simp; omega
theorem all_u8 {p : Int → Prop} (h : ∀ b : Fin 256, p (b.val : Int)) (c : UInt8) : p (c.toNat : Int) := h ⟨c.toNat, c.toNat_lt⟩
theorem w64 {i : Int} (h0 : -9223372036854775808 ≤ i) (h1 : i ≤ 9223372036854775807) : wrap64 i = i := by unfold wrap64; omega
/-- Fuel: from some number of rounds on the answer is r. -/
theorem Ev.mk {α : Type} {g : Nat → Option α} {r : α} (K : Nat) (h : ∀ k, K ≤ k → g k = some r) : Ev g r := ⟨K, h⟩
theorem Ev.ite_pos {α : Type} {c : Prop} [Decidable c] {g f : Nat → Option α} {r : α} (hc : c) (k : Ev g r) : Ev (fun n => if c then g n else f n) r := k.congr (fun _ => if_pos hc)
theorem Ev.ite_neg {α : Type} {c : Prop} [Decidable c] {g f : Nat → Option α} {r : α} (hc : ¬ c) (k : Ev f r) : Ev (fun n => if c then g n else f n) r := k.congr (fun _ => if_neg hc)
/-- one more round -/
theorem Ev.succ {α : Type} {g f : Nat → Option α} {r : α} (h : ∀ k, g (k + 1) = f k) (k : Ev f r) : Ev g r := k.step h
theorem at_more {α : Type} {g : Nat → Option α} (hg : ∀ k, LeO (g k) (g (k + 1))) {k m : Nat} {r : α} (h : k ≤ m) (hk : g k = some r) : g m = some r := at_rounds hg h hk
theorem Ev.const {α : Type} {g : Option α} {r : α} (h : g = some r) : Ev (fun _ => g) r := Ev.mk 0 fun _ _ => h
theorem w32 {i : Int} (h0 : -2147483648 ≤ i) (h1 : i ≤ 2147483647) : wrap32 i = i := by unfold wrap32; omega
end Go.Proofs.YtbcbmmlpgdndpaaDoor.Q
end
section
set_option linter.unusedSimpArgs false
set_option linter.unusedVariables false
namespace Go.Proofs.YtbcbmmlpgdndpaaDoor.Q
open Go.RowKit Go.Proofs.YtbcbmmlpgdndpaaDoorW.PrintWords Go.Proofs.YtbcbmmlpgdndpaaDoorW.PrintLast Go.Proofs.YtbcbmmlpgdndpaaDoorW.PrintMore
abbrev Fld := S32
abbrev kF := k32
theorem named_calls (s : ByteArray) (w : World) : Calls Tryd.prog 36 #[.string s] w fun e w' => e = .returned (.func (.func 56) #[] #[.pointer (some ⟨w.heap.size, 0, none⟩)]) ∧ w' = w.alloc (.cells #[.string s] 9) := by
  go_enter Tryd.func36, Tryd.ntmps36
  go_wp2
  go_ret
  exact ⟨rfl, rfl⟩
theorem named1_calls (x v s : ByteArray) (b : Nat) (w : World) (hc : w.cell? ⟨b, 0, none⟩ = some (.string s)) :
    Calls Tryd.prog 56 #[.agg #[.string x, .string v], .pointer (some ⟨b, 0, none⟩)] w fun e w' => e = .returned (.bool (x.toList == s.toList)) ∧ Below w.heap.size w w' := by
  have hb : b < w.heap.size := World.block_lt_of_cell? w _ hc
  have hne : b ≠ w.heap.size := by omega
  go_enter Tryd.func56, Tryd.ntmps56
  go_wp2
  go_ret
  exact ⟨rfl, (Below.refl _ w).alloc (Nat.le_refl _) _⟩
/-- a pair that is too long -/
def longP (x v : ByteArray) : Bool := decide (4096 < max x.size v.size)
theorem long_calls (x v : ByteArray) (w : World) :
    Calls Tryd.prog 25 #[.agg #[.string x, .string v]] w fun e w' => e = .returned (.bool (longP x v)) ∧ Below w.heap.size w w' := by
  go_enter Tryd.func25, Tryd.ntmps25
  go_wp2
  go_ret
  refine ⟨?_, (Below.refl _ w).alloc (Nat.le_refl _) _⟩
  show Ending.returned (.bool (decide ((4096 : Int) < max (x.size : Int) (v.size : Int)))) = _
  unfold longP
  congr 2
  rw [decide_eq_decide]
  omega
def hitAt (p : Nat → Bool) (n : Nat) (r : Int) : Prop := (r = -1 ∧ ∀ j, j < n → p j = false) ∨ ∃ k : Nat, r = k ∧ k < n ∧ p k = true ∧ ∀ j, j < k → p j = false
set_option maxHeartbeats 2000000 in
theorem fldIdx_calls (A : Option Addr) (c : Nat) (l : List Fld) (q : ByteArray → ByteArray → Bool) (g : Nat) (lb : Array Value) (eg : ∀ args w, (callFunc g args).run Tryd.prog w = .ok (.enter g args) w) (w : World) (hn : l.length ≤ 140737488355328)
    (hC : Kd.C kF w A l.length l)
    (hp : ∀ (W : World) x v, Below w.heap.size w W → Calls Tryd.prog g (#[.agg #[.string x, .string v]] ++ lb) W fun e w' => e = .returned (.bool (q x v)) ∧ Below W.heap.size W w') :
    Calls Tryd.prog 35 #[.slice A l.length c, .func (.func g) #[] lb] w fun e w' => ∃ r, e = .returned (.int .i64 r) ∧ hitAt (fun j => q (rd_T32 l j).f0 (rd_T32 l j).f1) l.length r ∧ Below w.heap.size w w' := by
  have HC := Lib.hid hC
  have HP := Lib.hid hp
  clear hC hp
  generalize hnl : l.length = n at *
  go_enter Tryd.func35, Tryd.ntmps35
  go_wp2
  go_loopg [5, 8] n (fun gg _ s8 wr => ∃ kk : Nat, kk ≤ n ∧ n - kk ≤ gg ∧ s8 = .int .i64 kk ∧ Hid (Below w.heap.size w wr) ∧ Hid (∀ j : Nat, j < kk → q (rd_T32 l j).f0 (rd_T32 l j).f1 = false))
  case atStart => exact ⟨0, Nat.zero_le _, by omega, rfl, Lib.hid (Below.refl _ w), Lib.hid (fun j hj => absurd hj (Nat.not_lt_zero _))⟩
  case round =>
    obtain ⟨kk, hkk, hg, rfl, BW, HA⟩ := hrel
    by_cases hlt : kk < n
    · have hltz : (kk : Int) < (n : Int) := by omega
      obtain ⟨ad, rfl, k0, k1⟩ := at_T32 (Kd.C_below HC.out BW.out) (kk : Int) (by omega) (by omega)
      rw [Int.toNat_natCast] at k0 k1
      have hcall := HP.out wr (rd_T32 l (kk : Int)).f0 (rd_T32 l (kk : Int)).f1 BW.out
      have HQ := Lib.hid (show q (rd_T32 l (kk : Int)).f0 (rd_T32 l (kk : Int)).f1 = q (rd_T32 l (kk : Int)).f0 (rd_T32 l (kk : Int)).f1 from rfl)
      generalize hd : (rd_T32 l (kk : Int)).f0 = x at k0 hcall HQ
      generalize he : (rd_T32 l (kk : Int)).f1 = y at k1 hcall HQ
      have HD := Lib.hid (And.intro hd he)
      clear hd he
      cases hq : q x y with
      | true =>
        rw [hq] at hcall
        go_wp2_with fail
        refine hcall.mono ?_
        rintro e w' ⟨rfl, hb'⟩
        go_wp2
        go_ret
        exact ⟨_, rfl, .inr ⟨kk, rfl, hlt, by show q _ _ = true; rw [HD.out.1, HD.out.2]; exact hq, HA.out⟩, BW.out.trans (hb'.mono BW.out.size)⟩
      | false =>
        rw [hq] at hcall
        go_wp2_with fail
        refine hcall.mono ?_
        rintro e w' ⟨rfl, hb'⟩
        go_wp2
        go_roundg (n - (kk + 1))
        case measure => omega
        case rel =>
          refine ⟨kk + 1, by omega, by omega, by go_num, Lib.hid (BW.out.trans (hb'.mono BW.out.size)), Lib.hid (fun j hj => ?_)⟩
          by_cases e : j = kk
          · subst e; show q _ _ = false; rw [HD.out.1, HD.out.2]; exact hq
          · exact HA.out j (by omega)
    · have hltz : ¬ (kk : Int) < (n : Int) := by omega
      obtain rfl : kk = n := by omega
      go_wp2
      go_ret
      exact ⟨_, rfl, .inl ⟨rfl, HA.out⟩, BW.out⟩
theorem rd_F (l : List Fld) (j : Nat) (hj : j < l.length) : rd_T32 l (j : Int) = l[j]'hj := by simp [rd_T32, List.getD_eq_getElem?_getD, hj]
theorem hitAt_any (l : List Fld) (q : ByteArray → ByteArray → Bool) (r : Int) (h : hitAt (fun j => q (rd_T32 l j).f0 (rd_T32 l j).f1) l.length r) : decide (r ≥ 0) = l.any fun d => q d.f0 d.f1 := by
  rcases h with ⟨rfl, h⟩ | ⟨k, rfl, hk, hq, _⟩
  · symm
    rw [show decide ((-1 : Int) ≥ 0) = false from rfl, List.any_eq_false]
    intro d hd
    obtain ⟨j, hj, rfl⟩ := List.mem_iff_getElem.1 hd
    have h2 : q _ _ = false := h j hj
    rw [rd_F l j hj] at h2
    simp [h2]
  · rw [decide_eq_true (by omega)]
    symm
    rw [List.any_eq_true]
    have h2 : q _ _ = true := hq
    rw [rd_F l k hk] at h2
    exact ⟨_, List.getElem_mem hk, h2⟩
theorem fldHas_calls (A : Option Addr) (c : Nat) (l : List Fld) (q : ByteArray → ByteArray → Bool) (g : Nat) (lb : Array Value) (eg : ∀ args w, (callFunc g args).run Tryd.prog w = .ok (.enter g args) w) (w : World) (hn : l.length ≤ 140737488355328)
    (hC : Kd.C kF w A l.length l)
    (hp : ∀ (W : World) x v, Below w.heap.size w W → Calls Tryd.prog g (#[.agg #[.string x, .string v]] ++ lb) W fun e w' => e = .returned (.bool (q x v)) ∧ Below W.heap.size W w') :
    Calls Tryd.prog 24 #[.slice A l.length c, .func (.func g) #[] lb] w fun e w' => e = .returned (.bool (l.any fun d => q d.f0 d.f1)) ∧ Below w.heap.size w w' := by
  have hc := fldIdx_calls A c l q g lb eg w hn hC hp
  have HA := Lib.hid (hitAt_any l q)
  clear hp hC
  go_enter Tryd.func24, Tryd.ntmps24
  go_wp2_with fail
  refine hc.mono ?_
  rintro e w' ⟨r, rfl, hr, hb⟩
  have HR := Lib.hid hr
  clear hr hc
  go_wp2
  go_ret
  exact ⟨by rw [← HA.out r HR.out]; rfl, hb⟩
end Go.Proofs.YtbcbmmlpgdndpaaDoor.Q
end
section
set_option linter.unusedSimpArgs false
set_option linter.unusedVariables false
namespace Go.Proofs
open Go.Shelf
def Tryd.lays145_ren : Go.Shelf.Ren := ⟨fun | 145 => 31 | 217 => 87 | 219 => 72 | 220 => 52 | 224 => 89 | 225 => 88 | 266 => 100 | 267 => 90 | 314 => 101 | n => n, fun | 3 => 3 | 4 => 4 | 5 => 5 | 9 => 9 | 46 => 86 | 51 => 121 | 59 => 59 | 146 => 122 | n => n, fun | 1 => 2 | n => n⟩
theorem Tryd.lays145 : Go.Proofs.Lays.n145 Tryd.prog Tryd.lays145_ren := {
  mixed := by kernel_rfl
  f145 := Tryd.func31.trans (congrArg some (by kernel_rfl))
  f217 := Tryd.func87.trans (congrArg some (by kernel_rfl))
  f219 := Tryd.func72.trans (congrArg some (by kernel_rfl))
  f220 := Tryd.func52.trans (congrArg some (by kernel_rfl))
  f224 := Tryd.func89.trans (congrArg some (by kernel_rfl))
  f225 := Tryd.func88.trans (congrArg some (by kernel_rfl))
  f266 := Tryd.func100.trans (congrArg some (by kernel_rfl))
  f267 := Tryd.func90.trans (congrArg some (by kernel_rfl))
  f314 := Tryd.func101.trans (congrArg some (by kernel_rfl))
  t3 := Tryd.underlying3
  a3 := Tryd.isAgg3
  z3 := Tryd.sizeOf3
  v3 := Tryd.zeroValue3
  t4 := Tryd.underlying4
  a4 := Tryd.isAgg4
  z4 := Tryd.sizeOf4
  v4 := Tryd.zeroValue4
  t5 := Tryd.underlying5
  a5 := Tryd.isAgg5
  z5 := Tryd.sizeOf5
  v5 := Tryd.zeroValue5
  t9 := Tryd.underlying9
  a9 := Tryd.isAgg9
  z9 := Tryd.sizeOf9
  v9 := Tryd.zeroValue9
  t46 := Tryd.underlying86
  a46 := Tryd.isAgg86
  z46 := Tryd.sizeOf86
  v46 := Tryd.zeroValue86
  t51 := Tryd.underlying121
  a51 := Tryd.isAgg121
  z51 := Tryd.sizeOf121
  v51 := Tryd.zeroValue121
  t59 := Tryd.underlying59
  a59 := Tryd.isAgg59
  z59 := Tryd.sizeOf59
  v59 := Tryd.zeroValue59
  t146 := Tryd.underlying122
  a146 := Tryd.isAgg122
  z146 := Tryd.sizeOf122
  v146 := Tryd.zeroValue122
  g1 := by kernel_rfl }
end Go.Proofs
namespace Go.Proofs.YtbcbmmlpgdndpaaDoor.Q
open Go.RowKit Go.Proofs.YtbcbmmlpgdndpaaDoorW.PrintWords Go.Proofs.YtbcbmmlpgdndpaaDoorW.PrintLast Go.Proofs.YtbcbmmlpgdndpaaDoorW.PrintMore
def strings_Cut.f (a0 a1 : ByteArray) : Option (ByteArray × ByteArray × Bool) :=
  if a0.size < 4294967281 then some (⟨(Lib.cut a0.data.toList a1.data.toList).1.toArray⟩, ⟨(Lib.cut a0.data.toList a1.data.toList).2.1.toArray⟩, (Lib.cut a0.data.toList a1.data.toList).2.2) else none
theorem strings_Cut.calls (a0 a1 : ByteArray) (r1 r2 : ByteArray) (r3 : Bool) (w : World) (hT : UTabs w) (h : strings_Cut.f a0 a1 = some (r1, r2, r3)) :
    Calls Tryd.prog 31 #[.string a0, .string a1] w fun e w' => e = .returned (.tuple #[.string r1, .string r2, .bool r3]) ∧ Below w.heap.size w w' := by
  unfold strings_Cut.f at h
  split at h
  · rename_i hs
    cases h
    obtain ⟨_, ⟨m, hm⟩, _⟩ := hT
    refine (Any.strings_Cut Tryd.lays145 a0 a1 m w hs hm).mono ?_
    rintro e w' ⟨he, n, rfl⟩
    exact ⟨he, pw_below_drewN (Below.refl _ _) n⟩
  · cases h
end Go.Proofs.YtbcbmmlpgdndpaaDoor.Q
end
