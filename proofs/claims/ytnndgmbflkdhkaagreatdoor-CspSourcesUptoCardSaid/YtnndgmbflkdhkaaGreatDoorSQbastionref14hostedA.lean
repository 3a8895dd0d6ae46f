/- Functions of the given program as plain Lean functions, each with the proof that the machine answers as it does; laid by a program of mine over the kit print. -/
import Derived.Test.YtnndgmbflkdhkaaGreatDoorSB6
import Derived.Test.YtnndgmbflkdhkaaGreatDoorSQbase
import Derived.Test.YtnndgmbflkdhkaaGreatDoorSQbastionref010
import Derived.Test.YtnndgmbflkdhkaaGreatDoorSB8
import Derived.Test.YtnndgmbflkdhkaaGreatDoorSQbastionref14nameA
import Derived.Test.YtnndgmbflkdhkaaGreatDoorSQbastionref14schemeA
namespace Go.Proofs.YtnndgmbflkdhkaaGreatDoor.Q
open Go.RowKit Go.Proofs.YtnndgmbflkdhkaaGreatDoorW.PrintWords Go.Proofs.YtnndgmbflkdhkaaGreatDoorW.PrintLast Go.Proofs.YtnndgmbflkdhkaaGreatDoorW.PrintMore
attribute [local go_sem] max2_int min2_int max_two min_two max_three min_three max_four min_four
set_option linter.unusedVariables false
set_option linter.unusedSimpArgs false
attribute [-simp] ByteArray.size_extract
private theorem bt_at0 (x : ByteArray) : ∀ h : 0 < x.size, ((x[0]'h).toNat : Int) = bt x 0 := bt_at x 0
private theorem w64m (x : Int) : wrap64 (x % 256) = x % 256 := by unfold wrap64; omega
attribute [local go_sem] IntKind.wrap_u8 w64m
mutual
def bastionref14_hosted.j0 : Nat → ByteArray → Int → Bool → Int → ByteArray → ByteArray → Bool → Int → Bool → Bool → ByteArray → Option (Int × ByteArray × ByteArray × Bool × Int × Bool × Bool × ByteArray × Bool)
 | 0, _, _, _, _, _, _, _, _, _, _, _ => none
 | k + 1, x0, x5, x27, x153000, x153001, x153002, x153003, x153004, x153005, x153006, x153007 => if x27 = true then (if 0 ≤ x5 then (if x5 ≤ (x0.size : Int) then ((bastionref01_Lower.f k (x0.extract 0 (x5 : Int).toNat)).bind fun t154 => (if 0 ≤ (wrap64 (x5 + 3)) then (if (wrap64 (x5 + 3)) ≤ (x0.size : Int) then (bastionref14_hosted.j1 k (x0.extract ((wrap64 (x5 + 3)) : Int).toNat x0.size) x153000 x153001 t154 x153003 x153004 x153005 x153006 x153007) else (none)) else (none))) else (none)) else (none)) else (bastionref14_hosted.j1 k x0 x153000 x153001 x153002 x153003 x153004 x153005 x153006 x153007)
def bastionref14_hosted.j1 : Nat → ByteArray → Int → ByteArray → ByteArray → Bool → Int → Bool → Bool → ByteArray → Option (Int × ByteArray × ByteArray × Bool × Int × Bool × Bool × ByteArray × Bool)
 | 0, _, _, _, _, _, _, _, _, _ => none
 | k + 1, x0, x153000, x153001, x153002, x153003, x153004, x153005, x153006, x153007 => if x0.toList = ([] : List UInt8) then (bastionref14_hosted.j2 k x0 false x153000 x153001 x153002 x153003 x153004 x153005 x153006 x153007) else (if 0 < (x0.size : Int) then (bastionref14_hosted.j2 k x0 ((bt x0 0) == 42) x153000 x153001 x153002 x153003 x153004 x153005 x153006 x153007) else (none))
def bastionref14_hosted.j2 : Nat → ByteArray → Bool → Int → ByteArray → ByteArray → Bool → Int → Bool → Bool → ByteArray → Option (Int × ByteArray × ByteArray × Bool × Int × Bool × Bool × ByteArray × Bool)
 | 0, _, _, _, _, _, _, _, _, _, _ => none
 | k + 1, x0, x43, x153000, x153001, x153002, x153003, x153004, x153005, x153006, x153007 => if x43 = true then (if 1 ≤ (x0.size : Int) then (if (x0.extract 1 x0.size).toList = ([] : List UInt8) then (bastionref14_hosted.j3 k (x0.extract 1 x0.size) 0 x153000 x153001 x153002 true x153004 x153005 x153006 x153007) else (if 0 < ((x0.extract 1 x0.size).size : Int) then (if (bt (x0.extract 1 x0.size) 0) = 46 then (if 1 ≤ ((x0.extract 1 x0.size).size : Int) then ((bastionref14_name.f k ((x0.extract 1 x0.size).extract 1 (x0.extract 1 x0.size).size)).bind fun t155 => (bastionref14_hosted.j3 k ((x0.extract 1 x0.size).extract 1 (x0.extract 1 x0.size).size) t155 x153000 x153001 x153002 true x153004 x153005 x153006 x153007)) else (none)) else (bastionref14_hosted.j3 k (x0.extract 1 x0.size) 0 x153000 x153001 x153002 true x153004 x153005 x153006 x153007)) else (none))) else (none)) else ((bastionref14_name.f k x0).bind fun t156 => (bastionref14_hosted.j3 k x0 t156 x153000 x153001 x153002 x153003 x153004 x153005 x153006 x153007))
def bastionref14_hosted.j3 : Nat → ByteArray → Int → Int → ByteArray → ByteArray → Bool → Int → Bool → Bool → ByteArray → Option (Int × ByteArray × ByteArray × Bool × Int × Bool × Bool × ByteArray × Bool)
 | 0, _, _, _, _, _, _, _, _, _, _ => none
 | k + 1, x0, x5, x153000, x153001, x153002, x153003, x153004, x153005, x153006, x153007 => if x5 < 0 then (some (x153000, x153001, x153002, x153003, x153004, x153005, x153006, x153007, false)) else (if 0 ≤ x5 then (if x5 ≤ (x0.size : Int) then ((bastionref01_Lower.f k (x0.extract 0 (x5 : Int).toNat)).bind fun t157 => (if (x0.extract (x5 : Int).toNat x0.size).toList = ([] : List UInt8) then (bastionref14_hosted.j4 k (x0.extract (x5 : Int).toNat x0.size) false x153000 t157 x153002 x153003 x153004 x153005 x153006 x153007) else (if 0 < ((x0.extract (x5 : Int).toNat x0.size).size : Int) then (bastionref14_hosted.j4 k (x0.extract (x5 : Int).toNat x0.size) ((bt (x0.extract (x5 : Int).toNat x0.size) 0) == 58) x153000 t157 x153002 x153003 x153004 x153005 x153006 x153007) else (none)))) else (none)) else (none))
def bastionref14_hosted.j4 : Nat → ByteArray → Bool → Int → ByteArray → ByteArray → Bool → Int → Bool → Bool → ByteArray → Option (Int × ByteArray × ByteArray × Bool × Int × Bool × Bool × ByteArray × Bool)
 | 0, _, _, _, _, _, _, _, _, _, _ => none
 | k + 1, x0, x77, x153000, x153001, x153002, x153003, x153004, x153005, x153006, x153007 => if x77 = true then (if 1 ≤ (x0.size : Int) then (bastionref14_hosted.l0 k (x0.extract 1 x0.size) 0 x153000 x153001 x153002 x153003 x153004 x153005 x153006 x153007) else (none)) else (bastionref14_hosted.j8 k x0 x153000 x153001 x153002 x153003 x153004 x153005 x153006 x153007)
def bastionref14_hosted.j8 : Nat → ByteArray → Int → ByteArray → ByteArray → Bool → Int → Bool → Bool → ByteArray → Option (Int × ByteArray × ByteArray × Bool × Int × Bool × Bool × ByteArray × Bool)
 | 0, _, _, _, _, _, _, _, _, _ => none
 | k + 1, x0, x153000, x153001, x153002, x153003, x153004, x153005, x153006, x153007 => if x0.toList = ([] : List UInt8) then (bastionref14_hosted.j9 k x0 false x153000 x153001 x153002 x153003 x153004 x153005 x153006 x153007) else (if 0 < (x0.size : Int) then (bastionref14_hosted.j9 k x0 ((bt x0 0) != 47) x153000 x153001 x153002 x153003 x153004 x153005 x153006 x153007) else (none))
def bastionref14_hosted.j9 : Nat → ByteArray → Bool → Int → ByteArray → ByteArray → Bool → Int → Bool → Bool → ByteArray → Option (Int × ByteArray × ByteArray × Bool × Int × Bool × Bool × ByteArray × Bool)
 | 0, _, _, _, _, _, _, _, _, _, _ => none
 | k + 1, x0, x130, x153000, x153001, x153002, x153003, x153004, x153005, x153006, x153007 => if x130 = true then (some (x153000, x153001, x153002, x153003, x153004, x153005, x153006, x153007, false)) else (bastionref14_hosted.l1 k x0 0 x153000 x153001 x153002 x153003 x153004 x153005 x153006 x153007)
def bastionref14_hosted.l1 : Nat → ByteArray → Int → Int → ByteArray → ByteArray → Bool → Int → Bool → Bool → ByteArray → Option (Int × ByteArray × ByteArray × Bool × Int × Bool × Bool × ByteArray × Bool)
 | 0, _, _, _, _, _, _, _, _, _, _ => none
 | k + 1, x0, x7, x153000, x153001, x153002, x153003, x153004, x153005, x153006, x153007 => if x7 < (x0.size : Int) then (if 0 ≤ x7 then (if (bt x0 x7) = 59 then (some (x153000, x153001, x153002, x153003, x153004, x153005, x153006, x153007, false)) else (if (bt x0 x7) = 44 then (some (x153000, x153001, x153002, x153003, x153004, x153005, x153006, x153007, false)) else (if (bt x0 x7) = 63 then (some (x153000, x153001, x153002, x153003, x153004, x153005, x153006, x153007, false)) else (if (bt x0 x7) = 35 then (some (x153000, x153001, x153002, x153003, x153004, x153005, x153006, x153007, false)) else (bastionref14_hosted.l1 k x0 (wrap64 (x7 + 1)) x153000 x153001 x153002 x153003 x153004 x153005 x153006 x153007))))) else (none)) else (some (x153000, x153001, x153002, x153003, x153004, x153005, x153006, x0, true))
def bastionref14_hosted.l0 : Nat → ByteArray → Int → Int → ByteArray → ByteArray → Bool → Int → Bool → Bool → ByteArray → Option (Int × ByteArray × ByteArray × Bool × Int × Bool × Bool × ByteArray × Bool)
 | 0, _, _, _, _, _, _, _, _, _, _ => none
 | k + 1, x0, x6, x153000, x153001, x153002, x153003, x153004, x153005, x153006, x153007 => if x6 < (x0.size : Int) then (if 0 ≤ x6 then ((bastionref14_digit.f (bt x0 x6)).bind fun t158 => (bastionref14_hosted.j6 k x0 x6 t158 x153000 x153001 x153002 x153003 x153004 x153005 x153006 x153007)) else (none)) else (bastionref14_hosted.j6 k x0 x6 false x153000 x153001 x153002 x153003 x153004 x153005 x153006 x153007)
def bastionref14_hosted.j6 : Nat → ByteArray → Int → Bool → Int → ByteArray → ByteArray → Bool → Int → Bool → Bool → ByteArray → Option (Int × ByteArray × ByteArray × Bool × Int × Bool × Bool × ByteArray × Bool)
 | 0, _, _, _, _, _, _, _, _, _, _, _ => none
 | k + 1, x0, x6, x89, x153000, x153001, x153002, x153003, x153004, x153005, x153006, x153007 => if x89 = true then (if 0 ≤ x6 then (if x6 < (x0.size : Int) then (if (wrap64 (x6 + 1)) > 5 then (some (x153000, x153001, x153002, x153003, wrap64 ((wrap64 (10 * x153004)) + (((bt x0 x6) - 48) % 256)), x153005, x153006, x153007, false)) else (bastionref14_hosted.l0 k x0 (wrap64 (x6 + 1)) x153000 x153001 x153002 x153003 (wrap64 ((wrap64 (10 * x153004)) + (((bt x0 x6) - 48) % 256))) x153005 x153006 x153007)) else (none)) else (none)) else (if x6 = 0 then (if x0.toList = ([] : List UInt8) then (bastionref14_hosted.j7 k x0 true x153000 x153001 x153002 x153003 x153004 x153005 x153006 x153007) else (if 0 < (x0.size : Int) then (bastionref14_hosted.j7 k x0 ((bt x0 0) != 42) x153000 x153001 x153002 x153003 x153004 x153005 x153006 x153007) else (none))) else (if x153004 > 65535 then (some (x153000, x153001, x153002, x153003, x153004, true, x153006, x153007, false)) else (if 0 ≤ x6 then (if x6 ≤ (x0.size : Int) then (bastionref14_hosted.j8 k (x0.extract (x6 : Int).toNat x0.size) x153000 x153001 x153002 x153003 x153004 true x153006 x153007) else (none)) else (none))))
def bastionref14_hosted.j7 : Nat → ByteArray → Bool → Int → ByteArray → ByteArray → Bool → Int → Bool → Bool → ByteArray → Option (Int × ByteArray × ByteArray × Bool × Int × Bool × Bool × ByteArray × Bool)
 | 0, _, _, _, _, _, _, _, _, _, _ => none
 | k + 1, x0, x113, x153000, x153001, x153002, x153003, x153004, x153005, x153006, x153007 => if x113 = true then (some (x153000, x153001, x153002, x153003, x153004, x153005, x153006, x153007, false)) else (if x153004 > 65535 then (some (x153000, x153001, x153002, x153003, x153004, x153005, true, x153007, false)) else (if 1 ≤ (x0.size : Int) then (bastionref14_hosted.j8 k (x0.extract 1 x0.size) x153000 x153001 x153002 x153003 x153004 x153005 true x153007) else (none)))
end
def bastionref14_hosted.f (k : Nat) (a0 : ByteArray) : Option (Int × ByteArray × ByteArray × Bool × Int × Bool × Bool × ByteArray × Bool) := (bastionref14_scheme.f k a0).bind fun t153 => (if t153 > 0 then (if (a0.size : Int) ≥ (wrap64 (t153 + 3)) then (if 0 ≤ t153 then (if t153 ≤ (wrap64 (t153 + 3)) then (if (wrap64 (t153 + 3)) ≤ (a0.size : Int) then (bastionref14_hosted.j0 k a0 t153 ((a0.extract (t153 : Int).toNat ((wrap64 (t153 + 3)) : Int).toNat).toList == ([58, 47, 47] : List UInt8)) 5 (⟨#[]⟩ : ByteArray) (⟨#[]⟩ : ByteArray) false 0 false false (⟨#[]⟩ : ByteArray)) else (none)) else (none)) else (none)) else (bastionref14_hosted.j0 k a0 t153 false 5 (⟨#[]⟩ : ByteArray) (⟨#[]⟩ : ByteArray) false 0 false false (⟨#[]⟩ : ByteArray))) else (bastionref14_hosted.j0 k a0 t153 false 5 (⟨#[]⟩ : ByteArray) (⟨#[]⟩ : ByteArray) false 0 false false (⟨#[]⟩ : ByteArray)))
def bastionref14_hosted.T22 : Bool × List (List Nat × List Nat) := (true, [([], []), ([0], [0]), ([1], [1]), ([], []), ([], []), ([3, 4], [3, 4]), ([5], [5]), ([6], [6]), ([2, 7], [2, 7]), ([0, 1, 2, 3, 4, 5, 6, 7, 8], []), ([9, 8, 0, 1, 2, 3, 4, 5, 6, 7, 8], [8, 9])])
def bastionref14_hosted.B22 : List Nat := [0, 1, 3, 0, 0, 24, 56, 120, 255, 511, 1023]
theorem bastionref14_hosted.tab22 : rtab .any (opsOf Tryz.f47 22) = bastionref14_hosted.T22 := by kernel_rfl
theorem bastionref14_hosted.bits22 : waitsOk bastionref14_hosted.T22.2 bastionref14_hosted.B22 = true := by kernel_rfl
set_option maxHeartbeats 8000000 in
set_option maxRecDepth 100000 in
theorem bastionref14_hosted.calls (k : Nat) (a0 : ByteArray) (r1 : Int) (r2 : ByteArray) (r3 : ByteArray) (r4 : Bool) (r5 : Int) (r6 : Bool) (r7 : Bool) (r8 : ByteArray) (r9 : Bool) (w : World) (h : bastionref14_hosted.f k a0 = some (r1, r2, r3, r4, r5, r6, r7, r8, r9)) :
  Calls Tryz.prog 47 #[.string a0] w fun e w' => e = .returned (.tuple #[.agg #[.int .u8 r1, .string r2, .string r3, .bool r4, .int .i64 r5, .bool r6, .bool r7, .string r8], .bool r9]) ∧ Below w.heap.size w w' := by
 have hu40 := Tryz.underlying40
 have HB := Aside0.mk (Below.refl w.heap.size w)
 have H : ((bastionref14_scheme.f k a0).bind fun t153 => (if t153 > 0 then (if (a0.size : Int) ≥ (wrap64 (t153 + 3)) then (if 0 ≤ t153 then (if t153 ≤ (wrap64 (t153 + 3)) then (if (wrap64 (t153 + 3)) ≤ (a0.size : Int) then (bastionref14_hosted.j0 k a0 t153 ((a0.extract (t153 : Int).toNat ((wrap64 (t153 + 3)) : Int).toNat).toList == ([58, 47, 47] : List UInt8)) 5 (⟨#[]⟩ : ByteArray) (⟨#[]⟩ : ByteArray) false 0 false false (⟨#[]⟩ : ByteArray)) else (none)) else (none)) else (none)) else (bastionref14_hosted.j0 k a0 t153 false 5 (⟨#[]⟩ : ByteArray) (⟨#[]⟩ : ByteArray) false 0 false false (⟨#[]⟩ : ByteArray))) else (bastionref14_hosted.j0 k a0 t153 false 5 (⟨#[]⟩ : ByteArray) (⟨#[]⟩ : ByteArray) false 0 false false (⟨#[]⟩ : ByteArray)))) = some (r1, r2, r3, r4, r5, r6, r7, r8, r9) := h
 clear h
 replace H := Option.bind_eq_some_iff.mp H
 obtain ⟨t153, A20, H⟩ := H
 replace H : (if t153 > 0 then (if (a0.size : Int) ≥ (wrap64 (t153 + 3)) then (if 0 ≤ t153 then (if t153 ≤ (wrap64 (t153 + 3)) then (if (wrap64 (t153 + 3)) ≤ (a0.size : Int) then (bastionref14_hosted.j0 k a0 t153 ((a0.extract (t153 : Int).toNat ((wrap64 (t153 + 3)) : Int).toNat).toList == ([58, 47, 47] : List UInt8)) 5 (⟨#[]⟩ : ByteArray) (⟨#[]⟩ : ByteArray) false 0 false false (⟨#[]⟩ : ByteArray)) else (none)) else (none)) else (none)) else (bastionref14_hosted.j0 k a0 t153 false 5 (⟨#[]⟩ : ByteArray) (⟨#[]⟩ : ByteArray) false 0 false false (⟨#[]⟩ : ByteArray))) else (bastionref14_hosted.j0 k a0 t153 false 5 (⟨#[]⟩ : ByteArray) (⟨#[]⟩ : ByteArray) false 0 false false (⟨#[]⟩ : ByteArray))) = some (r1, r2, r3, r4, r5, r6, r7, r8, r9) := H
 have A2 := Aside0.mk A20
 clear A20
 have HC3 := Aside0.mk H
 clear H
 go_enter Tryz.func47, Tryz.ntmps47
 go_upto_region 3 with (first | ((with_reducible refine gate_dst (N := 2) rfl ?_); (try (refine gate_guard (by rfl) ?_; dsimp only)); refine box_event ?hg (N := 2) ?hd (cs := #[.int .u8 0, .string ⟨#[]⟩, .string ⟨#[]⟩, .bool false, .int .i64 0, .bool false, .bool false, .string ⟨#[]⟩]) (t := 40) ?hr ?_; (case hd => rfl); (case hg => rfl); (case hr => first | (go_simp; done) | (go_simp; rfl)); intro gb151 hg w4 hbox hb; have n0_ := Aside0.mk (below_step (by repeat (first | (with_reducible first | exact HB.out | apply below_alloc | apply pw_below_drewN | apply below_drew1) | exact HB.out)) hb); have n1_ := Aside0.mk (hbox); have n2_ := Aside0.mk ((by rw [hg]; exact (below_size (by repeat (first | (with_reducible first | exact HB.out | apply below_alloc | apply pw_below_drewN | apply below_drew1) | exact HB.out))) : w.heap.size ≤ gb151)); have n3_ := Aside0.mk ((by rw [hg]; exact (below_size (by repeat (first | (with_reducible first | exact HB.out | apply below_alloc | apply pw_below_drewN | apply below_drew1) | exact HB.out))) : w.heap.size ≤ gb151)); clear HB; have HB := n0_; have BK151 := n1_; have GW151 := n2_; have GE151 := n3_; clear n0_ n1_ n2_ n3_; clear hb hbox hg) | ((with_reducible refine gate_dst (N := 4) rfl ?_); (try (refine gate_guard (by rfl) ?_; dsimp only)); refine box_event ?hg (N := 4) ?hd (cs := #[.int .u8 0, .string ⟨#[]⟩, .string ⟨#[]⟩, .bool false, .int .i64 0, .bool false, .bool false, .string ⟨#[]⟩]) (t := 40) ?hr ?_; (case hd => rfl); (case hg => rfl); (case hr => first | (go_simp; done) | (go_simp; rfl)); intro gb152 hg w5 hbox hb; have n0_ := Aside0.mk (blk_below (g := gb151) (o := .cells #[.int .u8 0, .string ⟨#[]⟩, .string ⟨#[]⟩, .bool false, .int .i64 0, .bool false, .bool false, .string ⟨#[]⟩] 40 (0, 0)) (by (with_reducible repeat (first | refine blk_drewN ?_ _ | refine blk_drew ?_ | refine blk_alloc ?_ _)); exact BK151.out) hb); have n1_ := Aside0.mk (below_step (by repeat (first | (with_reducible first | exact HB.out | apply below_alloc | apply pw_below_drewN | apply below_drew1 | refine below_set ?_ GE151.out) | exact HB.out)) hb); have n2_ := Aside0.mk (hbox); have n3_ := Aside0.mk ((by rw [hg]; exact (below_size (by repeat (first | (with_reducible first | exact HB.out | apply below_alloc | apply pw_below_drewN | apply below_drew1 | refine below_set ?_ GE151.out) | exact HB.out))) : w.heap.size ≤ gb152)); have n4_ := Aside0.mk ((by rw [hg]; exact (below_size (by repeat (first | (with_reducible first | exact HB.out | apply below_alloc | apply pw_below_drewN | apply below_drew1 | refine below_set ?_ GE151.out) | exact HB.out))) : w.heap.size ≤ gb152)); have n5_ := Aside0.mk ((by rw [hg]; exact Nat.ne_of_lt (blk_lt (g := gb151) (o := .cells #[.int .u8 0, .string ⟨#[]⟩, .string ⟨#[]⟩, .bool false, .int .i64 0, .bool false, .bool false, .string ⟨#[]⟩] 40 (0, 0)) (by (with_reducible repeat (first | refine blk_drewN ?_ _ | refine blk_drew ?_ | refine blk_alloc ?_ _)); exact BK151.out)) : gb151 ≠ gb152)); have n6_ := Aside0.mk ((by rw [hg]; exact Nat.ne_of_gt (blk_lt (g := gb151) (o := .cells #[.int .u8 0, .string ⟨#[]⟩, .string ⟨#[]⟩, .bool false, .int .i64 0, .bool false, .bool false, .string ⟨#[]⟩] 40 (0, 0)) (by (with_reducible repeat (first | refine blk_drewN ?_ _ | refine blk_drew ?_ | refine blk_alloc ?_ _)); exact BK151.out)) : gb152 ≠ gb151)); clear BK151; clear HB; have BK151 := n0_; have HB := n1_; have BK152 := n2_; have GW152 := n3_; have GE152 := n4_; have NB151_152 := n5_; have NB152_151 := n6_; clear n0_ n1_ n2_ n3_ n4_ n5_ n6_; clear hb hbox hg; have hnb6 := NB152_151.out; have hnc6 := NB151_152.out; obtain ⟨hcz7_0, hcz7_1, hcz7_2, hcz7_3, hcz7_4, hcz7_5, hcz7_6, hcz7_7, hfz7_0, hfz7_1, hfz7_2, hfz7_3, hfz7_4, hfz7_5, hfz7_6, hfz7_7⟩ := cells8 BK152.out) | ((with_reducible refine gate_callee (f := 45) rfl ?_); refine goesL_ (some 10) rfl rfl Tryz.func45 (by kernel_rfl) rfl #[.string a0] rfl (by (try simp only [List.map_toArray, List.map_cons, List.map_nil]); first | done | rfl | (simp only [List.length_drop, List.length_take]; rfl)) ?_; (with_reducible refine (bastionref14_scheme.calls k a0 t153 _ A2.out).mono ?_); rintro e w' ⟨rfl, ⟨nd, rfl⟩⟩; refine ⟨_, rfl, ?_⟩))
 (try simp only [Act.put, List.setIfInBounds_toArray, List.set_cons_zero, List.set_cons_succ])
 go_cut [27] (fun v27 wc => ∃ (kq : Nat) (x27_2 : Bool), v27 = .bool x27_2 ∧ Aside0 (bastionref14_hosted.j0 kq a0 t153 x27_2 5 (⟨#[]⟩ : ByteArray) (⟨#[]⟩ : ByteArray) false 0 false false (⟨#[]⟩ : ByteArray) = some (r1, r2, r3, r4, r5, r6, r7, r8, r9)) ∧ Aside0 (kq ≤ k) ∧ Aside0 (wc.heap[gb151]? = some (.cells #[.int .u8 0, .string ⟨#[]⟩, .string ⟨#[]⟩, .bool false, .int .i64 0, .bool false, .bool false, .string ⟨#[]⟩] 40 (0, 0))) ∧ Aside0 (wc.heap[gb152]? = some (.cells #[.int .u8 5, .string ⟨#[]⟩, .string ⟨#[]⟩, .bool false, .int .i64 0, .bool false, .bool false, .string ⟨#[]⟩] 40 (0, 0))) ∧ Aside0 (Below w.heap.size w wc))
 case first =>
  have H := HC3.out
  clear HC3
  by_cases c8 : t153 > 0
  ·rw [if_pos c8] at H
   have c8b0 : decide (0 < t153) = true := decide_eq_true c8
   clear c8
   (first | rw [c8b0] | (simp only [i64_w, i32_w]; rw [c8b0]) | skip)
   by_cases c9 : (a0.size : Int) ≥ (wrap64 (t153 + 3))
   ·rw [if_pos c9] at H
    have c9b0 : decide ((wrap64 (t153 + 3)) ≤ (a0.size : Int)) = true := decide_eq_true c9
    clear c9
    by_cases c10 : 0 ≤ t153
    ·rw [if_pos c10] at H
     have c10b0 := eq_true c10
     have c10b1 : decide (0 ≤ t153) = true := decide_eq_true c10
     clear c10
     by_cases c11 : t153 ≤ (wrap64 (t153 + 3))
     ·rw [if_pos c11] at H
      have c11b0 := eq_true c11
      have c11b1 : decide (t153 ≤ (wrap64 (t153 + 3))) = true := decide_eq_true c11
      by_cases c12 : (wrap64 (t153 + 3)) ≤ (a0.size : Int)
      ·rw [if_pos c12] at H
       have c12b0 := eq_true c12
       have c12b1 : decide ((wrap64 (t153 + 3)) ≤ (a0.size : Int)) = true := decide_eq_true c12
       have H' := Aside0.mk H
       clear H
       go_wp2
       go_meet
       case rel => exact ⟨_, (((a0.extract (t153 : Int).toNat ((wrap64 (t153 + 3)) : Int).toNat).toList == ([58, 47, 47] : List UInt8))), (by first | rfl | (simp; done) | (simp [*]; done)), H', ⟨by first | omega | exact Nat.le_refl _⟩, ⟨by (with_reducible repeat (first | refine blk_drewN ?_ _ | refine blk_drew ?_ | refine blk_alloc ?_ _)); refine blk_far ?_ NB151_152.out _; (with_reducible repeat (first | refine blk_drewN ?_ _ | refine blk_drew ?_ | refine blk_alloc ?_ _)); refine blk_far ?_ NB151_152.out _; (with_reducible repeat (first | refine blk_drewN ?_ _ | refine blk_drew ?_ | refine blk_alloc ?_ _)); refine blk_far ?_ NB151_152.out _; (with_reducible repeat (first | refine blk_drewN ?_ _ | refine blk_drew ?_ | refine blk_alloc ?_ _)); refine blk_far ?_ NB151_152.out _; (with_reducible repeat (first | refine blk_drewN ?_ _ | refine blk_drew ?_ | refine blk_alloc ?_ _)); refine blk_far ?_ NB151_152.out _; (with_reducible repeat (first | refine blk_drewN ?_ _ | refine blk_drew ?_ | refine blk_alloc ?_ _)); refine blk_far ?_ NB151_152.out _; (with_reducible repeat (first | refine blk_drewN ?_ _ | refine blk_drew ?_ | refine blk_alloc ?_ _)); refine blk_far ?_ NB151_152.out _; (with_reducible repeat (first | refine blk_drewN ?_ _ | refine blk_drew ?_ | refine blk_alloc ?_ _)); refine blk_far ?_ NB151_152.out _; (with_reducible repeat (first | refine blk_drewN ?_ _ | refine blk_drew ?_ | refine blk_alloc ?_ _)); exact BK151.out⟩, ⟨by (with_reducible repeat (first | refine blk_drewN ?_ _ | refine blk_drew ?_ | refine blk_alloc ?_ _)); refine blk_put (cs := #[.int .u8 5, .string ⟨#[]⟩, .string ⟨#[]⟩, .bool false, .int .i64 0, .bool false, .bool false, .string ⟨#[]⟩]) ?_ 7 _ rfl; (with_reducible repeat (first | refine blk_drewN ?_ _ | refine blk_drew ?_ | refine blk_alloc ?_ _)); refine blk_put (cs := #[.int .u8 5, .string ⟨#[]⟩, .string ⟨#[]⟩, .bool false, .int .i64 0, .bool false, .bool false, .string ⟨#[]⟩]) ?_ 6 _ rfl; (with_reducible repeat (first | refine blk_drewN ?_ _ | refine blk_drew ?_ | refine blk_alloc ?_ _)); refine blk_put (cs := #[.int .u8 5, .string ⟨#[]⟩, .string ⟨#[]⟩, .bool false, .int .i64 0, .bool false, .bool false, .string ⟨#[]⟩]) ?_ 5 _ rfl; (with_reducible repeat (first | refine blk_drewN ?_ _ | refine blk_drew ?_ | refine blk_alloc ?_ _)); refine blk_put (cs := #[.int .u8 5, .string ⟨#[]⟩, .string ⟨#[]⟩, .bool false, .int .i64 0, .bool false, .bool false, .string ⟨#[]⟩]) ?_ 4 _ rfl; (with_reducible repeat (first | refine blk_drewN ?_ _ | refine blk_drew ?_ | refine blk_alloc ?_ _)); refine blk_put (cs := #[.int .u8 5, .string ⟨#[]⟩, .string ⟨#[]⟩, .bool false, .int .i64 0, .bool false, .bool false, .string ⟨#[]⟩]) ?_ 3 _ rfl; (with_reducible repeat (first | refine blk_drewN ?_ _ | refine blk_drew ?_ | refine blk_alloc ?_ _)); refine blk_put (cs := #[.int .u8 5, .string ⟨#[]⟩, .string ⟨#[]⟩, .bool false, .int .i64 0, .bool false, .bool false, .string ⟨#[]⟩]) ?_ 2 _ rfl; (with_reducible repeat (first | refine blk_drewN ?_ _ | refine blk_drew ?_ | refine blk_alloc ?_ _)); refine blk_put (cs := #[.int .u8 5, .string ⟨#[]⟩, .string ⟨#[]⟩, .bool false, .int .i64 0, .bool false, .bool false, .string ⟨#[]⟩]) ?_ 1 _ rfl; (with_reducible repeat (first | refine blk_drewN ?_ _ | refine blk_drew ?_ | refine blk_alloc ?_ _)); refine blk_put (cs := #[.int .u8 0, .string ⟨#[]⟩, .string ⟨#[]⟩, .bool false, .int .i64 0, .bool false, .bool false, .string ⟨#[]⟩]) ?_ 0 _ rfl; (with_reducible repeat (first | refine blk_drewN ?_ _ | refine blk_drew ?_ | refine blk_alloc ?_ _)); exact BK152.out⟩, ⟨by repeat (first | (with_reducible first | exact HB.out | apply below_alloc | apply pw_below_drewN | apply below_drew1 | refine below_set ?_ GE151.out | refine below_set ?_ GE152.out) | exact HB.out)⟩⟩
      ·rw [if_neg c12] at H
       exact absurd H (by simp)
     ·rw [if_neg c11] at H
      exact absurd H (by simp)
    ·rw [if_neg c10] at H
     exact absurd H (by simp)
   ·rw [if_neg c9] at H
    have c9b0 : decide ((wrap64 (t153 + 3)) ≤ (a0.size : Int)) = false := decide_eq_false c9
    clear c9
    have H' := Aside0.mk H
    clear H
    go_wp2
    go_meet
    case rel => exact ⟨_, (false), (by first | rfl | (simp; done) | (simp [*]; done)), H', ⟨by first | omega | exact Nat.le_refl _⟩, ⟨by (with_reducible repeat (first | refine blk_drewN ?_ _ | refine blk_drew ?_ | refine blk_alloc ?_ _)); refine blk_far ?_ NB151_152.out _; (with_reducible repeat (first | refine blk_drewN ?_ _ | refine blk_drew ?_ | refine blk_alloc ?_ _)); refine blk_far ?_ NB151_152.out _; (with_reducible repeat (first | refine blk_drewN ?_ _ | refine blk_drew ?_ | refine blk_alloc ?_ _)); refine blk_far ?_ NB151_152.out _; (with_reducible repeat (first | refine blk_drewN ?_ _ | refine blk_drew ?_ | refine blk_alloc ?_ _)); refine blk_far ?_ NB151_152.out _; (with_reducible repeat (first | refine blk_drewN ?_ _ | refine blk_drew ?_ | refine blk_alloc ?_ _)); refine blk_far ?_ NB151_152.out _; (with_reducible repeat (first | refine blk_drewN ?_ _ | refine blk_drew ?_ | refine blk_alloc ?_ _)); refine blk_far ?_ NB151_152.out _; (with_reducible repeat (first | refine blk_drewN ?_ _ | refine blk_drew ?_ | refine blk_alloc ?_ _)); refine blk_far ?_ NB151_152.out _; (with_reducible repeat (first | refine blk_drewN ?_ _ | refine blk_drew ?_ | refine blk_alloc ?_ _)); refine blk_far ?_ NB151_152.out _; (with_reducible repeat (first | refine blk_drewN ?_ _ | refine blk_drew ?_ | refine blk_alloc ?_ _)); exact BK151.out⟩, ⟨by (with_reducible repeat (first | refine blk_drewN ?_ _ | refine blk_drew ?_ | refine blk_alloc ?_ _)); refine blk_put (cs := #[.int .u8 5, .string ⟨#[]⟩, .string ⟨#[]⟩, .bool false, .int .i64 0, .bool false, .bool false, .string ⟨#[]⟩]) ?_ 7 _ rfl; (with_reducible repeat (first | refine blk_drewN ?_ _ | refine blk_drew ?_ | refine blk_alloc ?_ _)); refine blk_put (cs := #[.int .u8 5, .string ⟨#[]⟩, .string ⟨#[]⟩, .bool false, .int .i64 0, .bool false, .bool false, .string ⟨#[]⟩]) ?_ 6 _ rfl; (with_reducible repeat (first | refine blk_drewN ?_ _ | refine blk_drew ?_ | refine blk_alloc ?_ _)); refine blk_put (cs := #[.int .u8 5, .string ⟨#[]⟩, .string ⟨#[]⟩, .bool false, .int .i64 0, .bool false, .bool false, .string ⟨#[]⟩]) ?_ 5 _ rfl; (with_reducible repeat (first | refine blk_drewN ?_ _ | refine blk_drew ?_ | refine blk_alloc ?_ _)); refine blk_put (cs := #[.int .u8 5, .string ⟨#[]⟩, .string ⟨#[]⟩, .bool false, .int .i64 0, .bool false, .bool false, .string ⟨#[]⟩]) ?_ 4 _ rfl; (with_reducible repeat (first | refine blk_drewN ?_ _ | refine blk_drew ?_ | refine blk_alloc ?_ _)); refine blk_put (cs := #[.int .u8 5, .string ⟨#[]⟩, .string ⟨#[]⟩, .bool false, .int .i64 0, .bool false, .bool false, .string ⟨#[]⟩]) ?_ 3 _ rfl; (with_reducible repeat (first | refine blk_drewN ?_ _ | refine blk_drew ?_ | refine blk_alloc ?_ _)); refine blk_put (cs := #[.int .u8 5, .string ⟨#[]⟩, .string ⟨#[]⟩, .bool false, .int .i64 0, .bool false, .bool false, .string ⟨#[]⟩]) ?_ 2 _ rfl; (with_reducible repeat (first | refine blk_drewN ?_ _ | refine blk_drew ?_ | refine blk_alloc ?_ _)); refine blk_put (cs := #[.int .u8 5, .string ⟨#[]⟩, .string ⟨#[]⟩, .bool false, .int .i64 0, .bool false, .bool false, .string ⟨#[]⟩]) ?_ 1 _ rfl; (with_reducible repeat (first | refine blk_drewN ?_ _ | refine blk_drew ?_ | refine blk_alloc ?_ _)); refine blk_put (cs := #[.int .u8 0, .string ⟨#[]⟩, .string ⟨#[]⟩, .bool false, .int .i64 0, .bool false, .bool false, .string ⟨#[]⟩]) ?_ 0 _ rfl; (with_reducible repeat (first | refine blk_drewN ?_ _ | refine blk_drew ?_ | refine blk_alloc ?_ _)); exact BK152.out⟩, ⟨by repeat (first | (with_reducible first | exact HB.out | apply below_alloc | apply pw_below_drewN | apply below_drew1 | refine below_set ?_ GE151.out | refine below_set ?_ GE152.out) | exact HB.out)⟩⟩
  ·rw [if_neg c8] at H
   have c8b0 : decide (0 < t153) = false := decide_eq_false c8
   clear c8
   (first | rw [c8b0] | (simp only [i64_w, i32_w]; rw [c8b0]) | skip)
   have H' := Aside0.mk H
   clear H
   go_wp2
   go_meet
   case rel => exact ⟨_, (false), (by first | rfl | (simp; done) | (simp [*]; done)), H', ⟨by first | omega | exact Nat.le_refl _⟩, ⟨by (with_reducible repeat (first | refine blk_drewN ?_ _ | refine blk_drew ?_ | refine blk_alloc ?_ _)); refine blk_far ?_ NB151_152.out _; (with_reducible repeat (first | refine blk_drewN ?_ _ | refine blk_drew ?_ | refine blk_alloc ?_ _)); refine blk_far ?_ NB151_152.out _; (with_reducible repeat (first | refine blk_drewN ?_ _ | refine blk_drew ?_ | refine blk_alloc ?_ _)); refine blk_far ?_ NB151_152.out _; (with_reducible repeat (first | refine blk_drewN ?_ _ | refine blk_drew ?_ | refine blk_alloc ?_ _)); refine blk_far ?_ NB151_152.out _; (with_reducible repeat (first | refine blk_drewN ?_ _ | refine blk_drew ?_ | refine blk_alloc ?_ _)); refine blk_far ?_ NB151_152.out _; (with_reducible repeat (first | refine blk_drewN ?_ _ | refine blk_drew ?_ | refine blk_alloc ?_ _)); refine blk_far ?_ NB151_152.out _; (with_reducible repeat (first | refine blk_drewN ?_ _ | refine blk_drew ?_ | refine blk_alloc ?_ _)); refine blk_far ?_ NB151_152.out _; (with_reducible repeat (first | refine blk_drewN ?_ _ | refine blk_drew ?_ | refine blk_alloc ?_ _)); refine blk_far ?_ NB151_152.out _; (with_reducible repeat (first | refine blk_drewN ?_ _ | refine blk_drew ?_ | refine blk_alloc ?_ _)); exact BK151.out⟩, ⟨by (with_reducible repeat (first | refine blk_drewN ?_ _ | refine blk_drew ?_ | refine blk_alloc ?_ _)); refine blk_put (cs := #[.int .u8 5, .string ⟨#[]⟩, .string ⟨#[]⟩, .bool false, .int .i64 0, .bool false, .bool false, .string ⟨#[]⟩]) ?_ 7 _ rfl; (with_reducible repeat (first | refine blk_drewN ?_ _ | refine blk_drew ?_ | refine blk_alloc ?_ _)); refine blk_put (cs := #[.int .u8 5, .string ⟨#[]⟩, .string ⟨#[]⟩, .bool false, .int .i64 0, .bool false, .bool false, .string ⟨#[]⟩]) ?_ 6 _ rfl; (with_reducible repeat (first | refine blk_drewN ?_ _ | refine blk_drew ?_ | refine blk_alloc ?_ _)); refine blk_put (cs := #[.int .u8 5, .string ⟨#[]⟩, .string ⟨#[]⟩, .bool false, .int .i64 0, .bool false, .bool false, .string ⟨#[]⟩]) ?_ 5 _ rfl; (with_reducible repeat (first | refine blk_drewN ?_ _ | refine blk_drew ?_ | refine blk_alloc ?_ _)); refine blk_put (cs := #[.int .u8 5, .string ⟨#[]⟩, .string ⟨#[]⟩, .bool false, .int .i64 0, .bool false, .bool false, .string ⟨#[]⟩]) ?_ 4 _ rfl; (with_reducible repeat (first | refine blk_drewN ?_ _ | refine blk_drew ?_ | refine blk_alloc ?_ _)); refine blk_put (cs := #[.int .u8 5, .string ⟨#[]⟩, .string ⟨#[]⟩, .bool false, .int .i64 0, .bool false, .bool false, .string ⟨#[]⟩]) ?_ 3 _ rfl; (with_reducible repeat (first | refine blk_drewN ?_ _ | refine blk_drew ?_ | refine blk_alloc ?_ _)); refine blk_put (cs := #[.int .u8 5, .string ⟨#[]⟩, .string ⟨#[]⟩, .bool false, .int .i64 0, .bool false, .bool false, .string ⟨#[]⟩]) ?_ 2 _ rfl; (with_reducible repeat (first | refine blk_drewN ?_ _ | refine blk_drew ?_ | refine blk_alloc ?_ _)); refine blk_put (cs := #[.int .u8 5, .string ⟨#[]⟩, .string ⟨#[]⟩, .bool false, .int .i64 0, .bool false, .bool false, .string ⟨#[]⟩]) ?_ 1 _ rfl; (with_reducible repeat (first | refine blk_drewN ?_ _ | refine blk_drew ?_ | refine blk_alloc ?_ _)); refine blk_put (cs := #[.int .u8 0, .string ⟨#[]⟩, .string ⟨#[]⟩, .bool false, .int .i64 0, .bool false, .bool false, .string ⟨#[]⟩]) ?_ 0 _ rfl; (with_reducible repeat (first | refine blk_drewN ?_ _ | refine blk_drew ?_ | refine blk_alloc ?_ _)); exact BK152.out⟩, ⟨by repeat (first | (with_reducible first | exact HB.out | apply below_alloc | apply pw_below_drewN | apply below_drew1 | refine below_set ?_ GE151.out | refine below_set ?_ GE152.out) | exact HB.out)⟩⟩
 case rest => as_aux_lemma =>
  clear HC3
  obtain ⟨kq, x27_2, rfl, HA, HJ2, BK151, BK152, HB⟩ := hcut
  cases kq with
  | zero => exact absurd HA.out (by simp [bastionref14_hosted.j0])
  | succ kj2 =>
   have H := HA.out
   clear HA
   simp only [bastionref14_hosted.j0] at H
   have HC13 := Aside0.mk H
   clear H
   go_upto_if 27 with (fail)
   go_cut [0] (fun v0 wc => ∃ (kq : Nat) (x0_12 : ByteArray) (x153002_12 : ByteArray), v0 = .string x0_12 ∧ Aside0 (bastionref14_hosted.j1 kq x0_12 5 (⟨#[]⟩ : ByteArray) x153002_12 false 0 false false (⟨#[]⟩ : ByteArray) = some (r1, r2, r3, r4, r5, r6, r7, r8, r9)) ∧ Aside0 (kq ≤ kj2) ∧ Aside0 (wc.heap[gb151]? = some (.cells #[.int .u8 0, .string ⟨#[]⟩, .string ⟨#[]⟩, .bool false, .int .i64 0, .bool false, .bool false, .string ⟨#[]⟩] 40 (0, 0))) ∧ Aside0 (wc.heap[gb152]? = some (.cells #[.int .u8 5, .string ⟨#[]⟩, .string x153002_12, .bool false, .int .i64 0, .bool false, .bool false, .string ⟨#[]⟩] 40 (0, 0))) ∧ Aside0 (Below w.heap.size w wc))
   case first =>
    have H := HC13.out
    clear HC13
    by_cases c14 : x27_2 = true
    ·subst c14
     have H1 : (if 0 ≤ t153 then (if t153 ≤ (a0.size : Int) then ((bastionref01_Lower.f kj2 (a0.extract 0 (t153 : Int).toNat)).bind fun t154 => (if 0 ≤ (wrap64 (t153 + 3)) then (if (wrap64 (t153 + 3)) ≤ (a0.size : Int) then (bastionref14_hosted.j1 kj2 (a0.extract ((wrap64 (t153 + 3)) : Int).toNat a0.size) 5 (⟨#[]⟩ : ByteArray) t154 false 0 false false (⟨#[]⟩ : ByteArray)) else (none)) else (none))) else (none)) else (none)) = some (r1, r2, r3, r4, r5, r6, r7, r8, r9) := by rw [if_pos rfl] at H; exact H
     clear H
     have H := H1
     clear H1
     by_cases c15 : 0 ≤ t153
     ·rw [if_pos c15] at H
      have c15b0 := eq_true c15
      have c15b1 : decide (0 ≤ t153) = true := decide_eq_true c15
      clear c15
      by_cases c16 : t153 ≤ (a0.size : Int)
      ·rw [if_pos c16] at H
       have c16b0 := eq_true c16
       have c16b1 : decide (t153 ≤ (a0.size : Int)) = true := decide_eq_true c16
       clear c16
       replace H := Option.bind_eq_some_iff.mp H
       obtain ⟨t154, A170, H⟩ := H
       replace H : (if 0 ≤ (wrap64 (t153 + 3)) then (if (wrap64 (t153 + 3)) ≤ (a0.size : Int) then (bastionref14_hosted.j1 kj2 (a0.extract ((wrap64 (t153 + 3)) : Int).toNat a0.size) 5 (⟨#[]⟩ : ByteArray) t154 false 0 false false (⟨#[]⟩ : ByteArray)) else (none)) else (none)) = some (r1, r2, r3, r4, r5, r6, r7, r8, r9) := H
       have A17 := Aside0.mk A170
       clear A170
       obtain ⟨ji18, hji18⟩ : ∃ j_ : Int, (wrap64 (t153 + 3)) = j_ := ⟨_, rfl⟩
       replace H : (if 0 ≤ (ji18) then (if (ji18) ≤ (a0.size : Int) then (bastionref14_hosted.j1 kj2 (a0.extract ((ji18) : Int).toNat a0.size) 5 (⟨#[]⟩ : ByteArray) t154 false 0 false false (⟨#[]⟩ : ByteArray)) else (none)) else (none)) = some (r1, r2, r3, r4, r5, r6, r7, r8, r9) := by first | (rw [hji18] at H; exact H) | (simp only [hji18] at H ⊢; exact H)
       (try rw [hji18] at A17)
       have hji18w : (IntKind.i64.wrap (t153 + 3)) = ji18 := (i64_w _).trans hji18
       by_cases c19 : 0 ≤ (ji18)
       ·rw [if_pos c19] at H
        have c19b0 := eq_true c19
        have c19b1 : decide (0 ≤ (ji18)) = true := decide_eq_true c19
        clear c19
        by_cases c20 : (ji18) ≤ (a0.size : Int)
        ·rw [if_pos c20] at H
         have c20b0 := eq_true c20
         have c20b1 : decide ((ji18) ≤ (a0.size : Int)) = true := decide_eq_true c20
         clear c20
         have H' := Aside0.mk H
         clear H
         go_wp2_with (first | ((with_reducible refine gate_callee (f := 46) rfl ?_); refine goesL_ (some 31) rfl rfl Tryz.func46 (by kernel_rfl) rfl #[.string (a0.extract 0 (t153 : Int).toNat)] rfl (by (try simp only [List.map_toArray, List.map_cons, List.map_nil]); first | done | rfl | (simp only [List.length_drop, List.length_take]; rfl)) ?_; (with_reducible refine (bastionref01_Lower.calls kj2 (a0.extract 0 (t153 : Int).toNat) t154 _ A17.out).mono ?_); rintro e w21 ⟨rfl, hb⟩; refine ⟨_, rfl, ?_⟩; have n0_ := Aside0.mk (blk_below (g := gb151) (o := .cells #[.int .u8 0, .string ⟨#[]⟩, .string ⟨#[]⟩, .bool false, .int .i64 0, .bool false, .bool false, .string ⟨#[]⟩] 40 (0, 0)) (by (with_reducible repeat (first | refine blk_drewN ?_ _ | refine blk_drew ?_ | refine blk_alloc ?_ _)); exact BK151.out) hb); have n1_ := Aside0.mk (blk_below (g := gb152) (o := .cells #[.int .u8 5, .string ⟨#[]⟩, .string ⟨#[]⟩, .bool false, .int .i64 0, .bool false, .bool false, .string ⟨#[]⟩] 40 (0, 0)) (by (with_reducible repeat (first | refine blk_drewN ?_ _ | refine blk_drew ?_ | refine blk_alloc ?_ _)); exact BK152.out) hb); have n2_ := Aside0.mk (below_step (by repeat (first | (with_reducible first | exact HB.out | apply below_alloc | apply pw_below_drewN | apply below_drew1 | refine below_set ?_ GE151.out | refine below_set ?_ GE152.out) | exact HB.out)) hb); clear BK151; clear BK152; clear HB; have BK151 := n0_; have BK152 := n1_; have HB := n2_; clear n0_ n1_ n2_; (try clear hb); (try clear hb2); (try clear hk); (try clear hi); have hnb22 := NB152_151.out; have hnc22 := NB151_152.out; obtain ⟨hcz23_0, hcz23_1, hcz23_2, hcz23_3, hcz23_4, hcz23_5, hcz23_6, hcz23_7, hfz23_0, hfz23_1, hfz23_2, hfz23_3, hfz23_4, hfz23_5, hfz23_6, hfz23_7⟩ := cells8 BK152.out))
         go_meet
         case rel => exact ⟨_, (a0.extract ((ji18) : Int).toNat a0.size), (t154), (by first | rfl | (simp; done) | (simp only [← hji18] <;> (first | rfl | simp)) | (simp [*]; done)), H', ⟨by have := HJ2.out; first | omega | exact Nat.le_refl _⟩, ⟨by (with_reducible repeat (first | refine blk_drewN ?_ _ | refine blk_drew ?_ | refine blk_alloc ?_ _)); refine blk_far ?_ NB151_152.out _; (with_reducible repeat (first | refine blk_drewN ?_ _ | refine blk_drew ?_ | refine blk_alloc ?_ _)); exact BK151.out⟩, ⟨by (with_reducible repeat (first | refine blk_drewN ?_ _ | refine blk_drew ?_ | refine blk_alloc ?_ _)); refine blk_put (cs := #[.int .u8 5, .string ⟨#[]⟩, .string ⟨#[]⟩, .bool false, .int .i64 0, .bool false, .bool false, .string ⟨#[]⟩]) ?_ 2 _ rfl; (with_reducible repeat (first | refine blk_drewN ?_ _ | refine blk_drew ?_ | refine blk_alloc ?_ _)); exact BK152.out⟩, ⟨by repeat (first | (with_reducible first | exact HB.out | apply below_alloc | apply pw_below_drewN | apply below_drew1 | refine below_set ?_ GE151.out | refine below_set ?_ GE152.out) | exact HB.out)⟩⟩
        ·rw [if_neg c20] at H
         exact absurd H (by simp)
       ·rw [if_neg c19] at H
        exact absurd H (by simp)
      ·rw [if_neg c16] at H
       exact absurd H (by simp)
     ·rw [if_neg c15] at H
      exact absurd H (by simp)
    ·replace c14 := Bool.eq_false_iff.mpr c14
     subst c14
     have H1 : (bastionref14_hosted.j1 kj2 a0 5 (⟨#[]⟩ : ByteArray) (⟨#[]⟩ : ByteArray) false 0 false false (⟨#[]⟩ : ByteArray)) = some (r1, r2, r3, r4, r5, r6, r7, r8, r9) := by rw [if_neg (show ¬ (false = true) by decide)] at H; exact H
     clear H
     have H := H1
     clear H1
     have H' := Aside0.mk H
     clear H
     go_wp2
     go_meet
     case rel => exact ⟨_, (a0), ((⟨#[]⟩ : ByteArray)), (by first | rfl | (simp; done) | (simp [*]; done)), H', ⟨by have := HJ2.out; first | omega | exact Nat.le_refl _⟩, ⟨by (with_reducible repeat (first | refine blk_drewN ?_ _ | refine blk_drew ?_ | refine blk_alloc ?_ _)); exact BK151.out⟩, ⟨by (with_reducible repeat (first | refine blk_drewN ?_ _ | refine blk_drew ?_ | refine blk_alloc ?_ _)); exact BK152.out⟩, ⟨by repeat (first | (with_reducible first | exact HB.out | apply below_alloc | apply pw_below_drewN | apply below_drew1 | refine below_set ?_ GE151.out | refine below_set ?_ GE152.out) | exact HB.out)⟩⟩
   case rest => as_aux_lemma =>
    clear HC13
    obtain ⟨kq, x0_12, x153002_12, rfl, HA, HJ12, BK151, BK152, HB⟩ := hcut
    cases kq with
    | zero => exact absurd HA.out (by simp [bastionref14_hosted.j1])
    | succ kj12 =>
     have H := HA.out
     clear HA
     simp only [bastionref14_hosted.j1] at H
     have HC24 := Aside0.mk H
     clear H
     go_upto_region 6 with (fail)
     go_cut [43] (fun v43 wc => ∃ (kq : Nat) (x43_23 : Bool), v43 = .bool x43_23 ∧ Aside0 (bastionref14_hosted.j2 kq x0_12 x43_23 5 (⟨#[]⟩ : ByteArray) x153002_12 false 0 false false (⟨#[]⟩ : ByteArray) = some (r1, r2, r3, r4, r5, r6, r7, r8, r9)) ∧ Aside0 (kq ≤ kj12) ∧ Aside0 (wc.heap[gb151]? = some (.cells #[.int .u8 0, .string ⟨#[]⟩, .string ⟨#[]⟩, .bool false, .int .i64 0, .bool false, .bool false, .string ⟨#[]⟩] 40 (0, 0))) ∧ Aside0 (wc.heap[gb152]? = some (.cells #[.int .u8 5, .string ⟨#[]⟩, .string x153002_12, .bool false, .int .i64 0, .bool false, .bool false, .string ⟨#[]⟩] 40 (0, 0))) ∧ Aside0 (Below w.heap.size w wc))
     case first =>
      have H := HC24.out
      clear HC24
      by_cases c25 : x0_12.toList = ([] : List UInt8)
      ·rw [if_pos c25] at H
       have c25b0 : (x0_12.toList == ([] : List UInt8)) = true := beq_iff_eq.mpr c25
       have c25b1 : (x0_12.toList != ([] : List UInt8)) = false := bne_eq_false_iff_eq.mpr c25
       clear c25
       (first | rw [c25b0] | (simp only [i64_w, i32_w]; rw [c25b0]) | skip)
       have H' := Aside0.mk H
       clear H
       go_wp2
       go_meet
       case rel => exact ⟨_, (false), (by first | rfl | (simp; done) | (simp [*]; done)), H', ⟨by have := HJ2.out; have := HJ12.out; first | omega | exact Nat.le_refl _⟩, ⟨by (with_reducible repeat (first | refine blk_drewN ?_ _ | refine blk_drew ?_ | refine blk_alloc ?_ _)); exact BK151.out⟩, ⟨by (with_reducible repeat (first | refine blk_drewN ?_ _ | refine blk_drew ?_ | refine blk_alloc ?_ _)); exact BK152.out⟩, ⟨by repeat (first | (with_reducible first | exact HB.out | apply below_alloc | apply pw_below_drewN | apply below_drew1 | refine below_set ?_ GE151.out | refine below_set ?_ GE152.out) | exact HB.out)⟩⟩
      ·rw [if_neg c25] at H
       have c25b0 : (x0_12.toList == ([] : List UInt8)) = false := beq_eq_false_iff_ne.mpr c25
       have c25b1 : (x0_12.toList != ([] : List UInt8)) = true := bne_iff_ne.mpr c25
       (first | rw [c25b0] | (simp only [i64_w, i32_w]; rw [c25b0]) | skip)
       by_cases c26 : 0 < (x0_12.size : Int)
       ·rw [if_pos c26] at H
        have c26b0 : decide (0 < (x0_12.size : Int)) = true := decide_eq_true c26
        have c26b1 : decide (0 < x0_12.size) = true := decide_eq_true (by omega)
        clear c26
        have H' := Aside0.mk H
        clear H
        have p27 : 0 ≤ (0 : Int) := (by omega)
        have q27 : 0 < x0_12.size := (by have : (0 : Int) < (x0_12.size : Int) := of_decide_eq_true (by first | (with_reducible assumption) | assumption); omega)
        have hx27 := bt_at0 x0_12
        clear p27
        have qi27 : (0 < (x0_12.size : Int)) = True := eq_true (of_decide_eq_true (by first | (with_reducible assumption) | assumption))
        replace q27 := eq_true q27
        go_wp2
        go_meet
        case rel => exact ⟨_, (((bt x0_12 0) == 42)), (by first | rfl | (simp; done) | (simp [*]; done)), H', ⟨by have := HJ2.out; have := HJ12.out; first | omega | exact Nat.le_refl _⟩, ⟨by (with_reducible repeat (first | refine blk_drewN ?_ _ | refine blk_drew ?_ | refine blk_alloc ?_ _)); exact BK151.out⟩, ⟨by (with_reducible repeat (first | refine blk_drewN ?_ _ | refine blk_drew ?_ | refine blk_alloc ?_ _)); exact BK152.out⟩, ⟨by repeat (first | (with_reducible first | exact HB.out | apply below_alloc | apply pw_below_drewN | apply below_drew1 | refine below_set ?_ GE151.out | refine below_set ?_ GE152.out) | exact HB.out)⟩⟩
       ·rw [if_neg c26] at H
        exact absurd H (by simp)
     case rest => as_aux_lemma =>
      clear HC24
      obtain ⟨kq, x43_23, rfl, HA, HJ23, BK151, BK152, HB⟩ := hcut
      cases kq with
      | zero => exact absurd HA.out (by simp [bastionref14_hosted.j2])
      | succ kj23 =>
       have H := HA.out
       clear HA
       simp only [bastionref14_hosted.j2] at H
       have HC28 := Aside0.mk H
       clear H
       go_upto_if 43 with (fail)
       go_cut [0, 5] (fun v0 v5 wc => ∃ (kq : Nat) (x0_27 : ByteArray) (x5_27 : Int) (x153003_27 : Bool), v0 = .string x0_27 ∧ v5 = .int .i64 x5_27 ∧ Aside0 (bastionref14_hosted.j3 kq x0_27 x5_27 5 (⟨#[]⟩ : ByteArray) x153002_12 x153003_27 0 false false (⟨#[]⟩ : ByteArray) = some (r1, r2, r3, r4, r5, r6, r7, r8, r9)) ∧ Aside0 (kq ≤ kj23) ∧ Aside0 (wc.heap[gb151]? = some (.cells #[.int .u8 0, .string ⟨#[]⟩, .string ⟨#[]⟩, .bool false, .int .i64 0, .bool false, .bool false, .string ⟨#[]⟩] 40 (0, 0))) ∧ Aside0 (wc.heap[gb152]? = some (.cells #[.int .u8 5, .string ⟨#[]⟩, .string x153002_12, .bool x153003_27, .int .i64 0, .bool false, .bool false, .string ⟨#[]⟩] 40 (0, 0))) ∧ Aside0 (Below w.heap.size w wc))
       case first =>
        have H := HC28.out
        clear HC28
        by_cases c29 : x43_23 = true
        ·subst c29
         have H1 : (if 1 ≤ (x0_12.size : Int) then (if (x0_12.extract 1 x0_12.size).toList = ([] : List UInt8) then (bastionref14_hosted.j3 kj23 (x0_12.extract 1 x0_12.size) 0 5 (⟨#[]⟩ : ByteArray) x153002_12 true 0 false false (⟨#[]⟩ : ByteArray)) else (if 0 < ((x0_12.extract 1 x0_12.size).size : Int) then (if (bt (x0_12.extract 1 x0_12.size) 0) = 46 then (if 1 ≤ ((x0_12.extract 1 x0_12.size).size : Int) then ((bastionref14_name.f kj23 ((x0_12.extract 1 x0_12.size).extract 1 (x0_12.extract 1 x0_12.size).size)).bind fun t155 => (bastionref14_hosted.j3 kj23 ((x0_12.extract 1 x0_12.size).extract 1 (x0_12.extract 1 x0_12.size).size) t155 5 (⟨#[]⟩ : ByteArray) x153002_12 true 0 false false (⟨#[]⟩ : ByteArray))) else (none)) else (bastionref14_hosted.j3 kj23 (x0_12.extract 1 x0_12.size) 0 5 (⟨#[]⟩ : ByteArray) x153002_12 true 0 false false (⟨#[]⟩ : ByteArray))) else (none))) else (none)) = some (r1, r2, r3, r4, r5, r6, r7, r8, r9) := by rw [if_pos rfl] at H; exact H
         clear H
         have H := H1
         clear H1
         by_cases c30 : 1 ≤ (x0_12.size : Int)
         ·rw [if_pos c30] at H
          have c30b0 := eq_true c30
          have c30b1 : decide (1 ≤ (x0_12.size : Int)) = true := decide_eq_true c30
          clear c30
          by_cases c31 : (x0_12.extract 1 x0_12.size).toList = ([] : List UInt8)
          ·rw [if_pos c31] at H
           have c31b0 : ((x0_12.extract 1 x0_12.size).toList == ([] : List UInt8)) = true := beq_iff_eq.mpr c31
           have c31b1 : ((x0_12.extract 1 x0_12.size).toList != ([] : List UInt8)) = false := bne_eq_false_iff_eq.mpr c31
           clear c31
           (first | rw [c31b0] | (simp only [i64_w, i32_w]; rw [c31b0]) | skip)
           have H' := Aside0.mk H
           clear H
           have hnb32 := NB152_151.out
           have hnc32 := NB151_152.out
           obtain ⟨hcz33_0, hcz33_1, hcz33_2, hcz33_3, hcz33_4, hcz33_5, hcz33_6, hcz33_7, hfz33_0, hfz33_1, hfz33_2, hfz33_3, hfz33_4, hfz33_5, hfz33_6, hfz33_7⟩ := cells8 BK152.out
           go_wp2
           go_meet
           case rel => exact ⟨_, (x0_12.extract 1 x0_12.size), (0), (true), (by first | rfl | (simp; done) | (simp [*]; done)), (by first | rfl | (simp; done) | (simp [*]; done)), H', ⟨by have := HJ2.out; have := HJ12.out; have := HJ23.out; first | omega | exact Nat.le_refl _⟩, ⟨by (with_reducible repeat (first | refine blk_drewN ?_ _ | refine blk_drew ?_ | refine blk_alloc ?_ _)); refine blk_far ?_ NB151_152.out _; (with_reducible repeat (first | refine blk_drewN ?_ _ | refine blk_drew ?_ | refine blk_alloc ?_ _)); exact BK151.out⟩, ⟨by (with_reducible repeat (first | refine blk_drewN ?_ _ | refine blk_drew ?_ | refine blk_alloc ?_ _)); refine blk_put (cs := #[.int .u8 5, .string ⟨#[]⟩, .string x153002_12, .bool false, .int .i64 0, .bool false, .bool false, .string ⟨#[]⟩]) ?_ 3 _ rfl; (with_reducible repeat (first | refine blk_drewN ?_ _ | refine blk_drew ?_ | refine blk_alloc ?_ _)); exact BK152.out⟩, ⟨by repeat (first | (with_reducible first | exact HB.out | apply below_alloc | apply pw_below_drewN | apply below_drew1 | refine below_set ?_ GE151.out | refine below_set ?_ GE152.out) | exact HB.out)⟩⟩
          ·rw [if_neg c31] at H
           have c31b0 : ((x0_12.extract 1 x0_12.size).toList == ([] : List UInt8)) = false := beq_eq_false_iff_ne.mpr c31
           have c31b1 : ((x0_12.extract 1 x0_12.size).toList != ([] : List UInt8)) = true := bne_iff_ne.mpr c31
           (first | rw [c31b0] | (simp only [i64_w, i32_w]; rw [c31b0]) | skip)
           by_cases c34 : 0 < ((x0_12.extract 1 x0_12.size).size : Int)
           ·rw [if_pos c34] at H
            have c34b0 : decide (0 < ((x0_12.extract 1 x0_12.size).size : Int)) = true := decide_eq_true c34
            have c34b1 : decide (0 < (x0_12.extract 1 x0_12.size).size) = true := decide_eq_true (by omega)
            clear c34
            by_cases c36 : (bt (x0_12.extract 1 x0_12.size) 0) = 46
            ·rw [if_pos c36] at H
             have c36b0 : ((bt (x0_12.extract 1 x0_12.size) 0) == 46) = true := beq_iff_eq.mpr c36
             have c36b1 : ((bt (x0_12.extract 1 x0_12.size) 0) != 46) = false := bne_eq_false_iff_eq.mpr c36
             clear c36
             by_cases c37 : 1 ≤ ((x0_12.extract 1 x0_12.size).size : Int)
             ·rw [if_pos c37] at H
              have c37b0 := eq_true c37
              have c37b1 : decide (1 ≤ ((x0_12.extract 1 x0_12.size).size : Int)) = true := decide_eq_true c37
              clear c37
              replace H := Option.bind_eq_some_iff.mp H
              obtain ⟨t155, A380, H⟩ := H
              replace H : (bastionref14_hosted.j3 kj23 ((x0_12.extract 1 x0_12.size).extract 1 (x0_12.extract 1 x0_12.size).size) t155 5 (⟨#[]⟩ : ByteArray) x153002_12 true 0 false false (⟨#[]⟩ : ByteArray)) = some (r1, r2, r3, r4, r5, r6, r7, r8, r9) := H
              have A38 := Aside0.mk A380
              clear A380
              have H' := Aside0.mk H
              clear H
              have hnb39 := NB152_151.out
              have hnc39 := NB151_152.out
              obtain ⟨hcz40_0, hcz40_1, hcz40_2, hcz40_3, hcz40_4, hcz40_5, hcz40_6, hcz40_7, hfz40_0, hfz40_1, hfz40_2, hfz40_3, hfz40_4, hfz40_5, hfz40_6, hfz40_7⟩ := cells8 BK152.out
              have p35 : 0 ≤ (0 : Int) := (by omega)
              have q35 : 0 < (x0_12.extract 1 x0_12.size).size := (by have : (0 : Int) < ((x0_12.extract 1 x0_12.size).size : Int) := of_decide_eq_true (by first | (with_reducible assumption) | assumption); omega)
              have hx35 := bt_at0 (x0_12.extract 1 x0_12.size)
              clear p35
              have qi35 : (0 < ((x0_12.extract 1 x0_12.size).size : Int)) = True := eq_true (of_decide_eq_true (by first | (with_reducible assumption) | assumption))
              replace q35 := eq_true q35
              go_wp2_with (first | ((with_reducible refine gate_callee (f := 80) rfl ?_); refine goesL_ (some 57) rfl rfl Tryz.func80 (by kernel_rfl) rfl #[.string ((x0_12.extract 1 x0_12.size).extract 1 (x0_12.extract 1 x0_12.size).size)] rfl (by (try simp only [List.map_toArray, List.map_cons, List.map_nil]); first | done | rfl | (simp only [List.length_drop, List.length_take]; rfl)) ?_; (with_reducible refine (bastionref14_name.calls kj23 ((x0_12.extract 1 x0_12.size).extract 1 (x0_12.extract 1 x0_12.size).size) t155 _ A38.out).mono ?_); rintro e w' ⟨rfl, ⟨nd, rfl⟩⟩; refine ⟨_, rfl, ?_⟩))
              go_meet
              case rel => exact ⟨_, ((x0_12.extract 1 x0_12.size).extract 1 (x0_12.extract 1 x0_12.size).size), (t155), (true), (by first | rfl | (simp; done) | (simp [*]; done)), (by first | rfl | (simp; done) | (simp [*]; done)), H', ⟨by have := HJ2.out; have := HJ12.out; have := HJ23.out; first | omega | exact Nat.le_refl _⟩, ⟨by (with_reducible repeat (first | refine blk_drewN ?_ _ | refine blk_drew ?_ | refine blk_alloc ?_ _)); refine blk_far ?_ NB151_152.out _; (with_reducible repeat (first | refine blk_drewN ?_ _ | refine blk_drew ?_ | refine blk_alloc ?_ _)); exact BK151.out⟩, ⟨by (with_reducible repeat (first | refine blk_drewN ?_ _ | refine blk_drew ?_ | refine blk_alloc ?_ _)); refine blk_put (cs := #[.int .u8 5, .string ⟨#[]⟩, .string x153002_12, .bool false, .int .i64 0, .bool false, .bool false, .string ⟨#[]⟩]) ?_ 3 _ rfl; (with_reducible repeat (first | refine blk_drewN ?_ _ | refine blk_drew ?_ | refine blk_alloc ?_ _)); exact BK152.out⟩, ⟨by repeat (first | (with_reducible first | exact HB.out | apply below_alloc | apply pw_below_drewN | apply below_drew1 | refine below_set ?_ GE151.out | refine below_set ?_ GE152.out) | exact HB.out)⟩⟩
             ·rw [if_neg c37] at H
              exact absurd H (by simp)
            ·rw [if_neg c36] at H
             have c36b0 : ((bt (x0_12.extract 1 x0_12.size) 0) == 46) = false := beq_eq_false_iff_ne.mpr c36
             have c36b1 : ((bt (x0_12.extract 1 x0_12.size) 0) != 46) = true := bne_iff_ne.mpr c36
             have H' := Aside0.mk H
             clear H
             have hnb41 := NB152_151.out
             have hnc41 := NB151_152.out
             obtain ⟨hcz42_0, hcz42_1, hcz42_2, hcz42_3, hcz42_4, hcz42_5, hcz42_6, hcz42_7, hfz42_0, hfz42_1, hfz42_2, hfz42_3, hfz42_4, hfz42_5, hfz42_6, hfz42_7⟩ := cells8 BK152.out
             have p35 : 0 ≤ (0 : Int) := (by omega)
             have q35 : 0 < (x0_12.extract 1 x0_12.size).size := (by have : (0 : Int) < ((x0_12.extract 1 x0_12.size).size : Int) := of_decide_eq_true (by first | (with_reducible assumption) | assumption); omega)
             have hx35 := bt_at0 (x0_12.extract 1 x0_12.size)
             clear p35
             have qi35 : (0 < ((x0_12.extract 1 x0_12.size).size : Int)) = True := eq_true (of_decide_eq_true (by first | (with_reducible assumption) | assumption))
             replace q35 := eq_true q35
             go_wp2
             go_meet
             case rel => exact ⟨_, (x0_12.extract 1 x0_12.size), (0), (true), (by first | rfl | (simp; done) | (simp [*]; done)), (by first | rfl | (simp; done) | (simp [*]; done)), H', ⟨by have := HJ2.out; have := HJ12.out; have := HJ23.out; first | omega | exact Nat.le_refl _⟩, ⟨by (with_reducible repeat (first | refine blk_drewN ?_ _ | refine blk_drew ?_ | refine blk_alloc ?_ _)); refine blk_far ?_ NB151_152.out _; (with_reducible repeat (first | refine blk_drewN ?_ _ | refine blk_drew ?_ | refine blk_alloc ?_ _)); exact BK151.out⟩, ⟨by (with_reducible repeat (first | refine blk_drewN ?_ _ | refine blk_drew ?_ | refine blk_alloc ?_ _)); refine blk_put (cs := #[.int .u8 5, .string ⟨#[]⟩, .string x153002_12, .bool false, .int .i64 0, .bool false, .bool false, .string ⟨#[]⟩]) ?_ 3 _ rfl; (with_reducible repeat (first | refine blk_drewN ?_ _ | refine blk_drew ?_ | refine blk_alloc ?_ _)); exact BK152.out⟩, ⟨by repeat (first | (with_reducible first | exact HB.out | apply below_alloc | apply pw_below_drewN | apply below_drew1 | refine below_set ?_ GE151.out | refine below_set ?_ GE152.out) | exact HB.out)⟩⟩
           ·rw [if_neg c34] at H
            exact absurd H (by simp)
         ·rw [if_neg c30] at H
          exact absurd H (by simp)
        ·replace c29 := Bool.eq_false_iff.mpr c29
         subst c29
         have H1 : ((bastionref14_name.f kj23 x0_12).bind fun t156 => (bastionref14_hosted.j3 kj23 x0_12 t156 5 (⟨#[]⟩ : ByteArray) x153002_12 false 0 false false (⟨#[]⟩ : ByteArray))) = some (r1, r2, r3, r4, r5, r6, r7, r8, r9) := by rw [if_neg (show ¬ (false = true) by decide)] at H; exact H
         clear H
         have H := H1
         clear H1
         replace H := Option.bind_eq_some_iff.mp H
         obtain ⟨t156, A430, H⟩ := H
         replace H : (bastionref14_hosted.j3 kj23 x0_12 t156 5 (⟨#[]⟩ : ByteArray) x153002_12 false 0 false false (⟨#[]⟩ : ByteArray)) = some (r1, r2, r3, r4, r5, r6, r7, r8, r9) := H
         have A43 := Aside0.mk A430
         clear A430
         have H' := Aside0.mk H
         clear H
         go_wp2_with (first | ((with_reducible refine gate_callee (f := 80) rfl ?_); refine goesL_ (some 59) rfl rfl Tryz.func80 (by kernel_rfl) rfl #[.string x0_12] rfl (by (try simp only [List.map_toArray, List.map_cons, List.map_nil]); first | done | rfl | (simp only [List.length_drop, List.length_take]; rfl)) ?_; (with_reducible refine (bastionref14_name.calls kj23 x0_12 t156 _ A43.out).mono ?_); rintro e w' ⟨rfl, ⟨nd, rfl⟩⟩; refine ⟨_, rfl, ?_⟩))
         go_meet
         case rel => exact ⟨_, (x0_12), (t156), (false), (by first | rfl | (simp; done) | (simp [*]; done)), (by first | rfl | (simp; done) | (simp [*]; done)), H', ⟨by have := HJ2.out; have := HJ12.out; have := HJ23.out; first | omega | exact Nat.le_refl _⟩, ⟨by (with_reducible repeat (first | refine blk_drewN ?_ _ | refine blk_drew ?_ | refine blk_alloc ?_ _)); exact BK151.out⟩, ⟨by (with_reducible repeat (first | refine blk_drewN ?_ _ | refine blk_drew ?_ | refine blk_alloc ?_ _)); exact BK152.out⟩, ⟨by repeat (first | (with_reducible first | exact HB.out | apply below_alloc | apply pw_below_drewN | apply below_drew1 | refine below_set ?_ GE151.out | refine below_set ?_ GE152.out) | exact HB.out)⟩⟩
       case rest => as_aux_lemma =>
        clear HC28
        obtain ⟨kq, x0_27, x5_27, x153003_27, rfl, rfl, HA, HJ27, BK151, BK152, HB⟩ := hcut
        cases kq with
        | zero => exact absurd HA.out (by simp [bastionref14_hosted.j3])
        | succ kj27 =>
         have H := HA.out
         clear HA
         simp only [bastionref14_hosted.j3] at H
         by_cases c44 : x5_27 < 0
         ·rw [if_pos c44] at H
          have c44b0 : decide (x5_27 < 0) = true := decide_eq_true c44
          clear c44
          simp only [Option.some.injEq, Prod.mk.injEq] at H
          obtain ⟨rfl, rfl, rfl, rfl, rfl, rfl, rfl, rfl, rfl⟩ := H
          go_upto_region 15 with (fail)
          refine hcopy BK152.out BK151.out NB151_152.out HB.out GE151.out rfl rfl (show 4 < 62 by decide) (show 62 < 164 by decide) ?_
          intro a' w' hd hres hb
          try dsimp only [Exit.then, Exit.inBlock]
          refine (by assumption : ∀ (a : Act) (w : World), Code.wp _ Code.ret _ a w → _) _ _ ?_
          refine hwp_ret ?_
          try dsimp only [Exit.then, Exit.inBlock]
          exact bodyPost_ret hres hd ⟨rfl, hb⟩
         ·rw [if_neg c44] at H
          have c44b0 : decide (x5_27 < 0) = false := decide_eq_false c44
          clear c44
          by_cases c48 : 0 ≤ x5_27
          ·rw [if_pos c48] at H
           have c48b0 := eq_true c48
           have c48b1 : decide (0 ≤ x5_27) = true := decide_eq_true c48
           clear c48
           by_cases c49 : x5_27 ≤ (x0_27.size : Int)
           ·rw [if_pos c49] at H
            have c49b0 := eq_true c49
            have c49b1 : decide (x5_27 ≤ (x0_27.size : Int)) = true := decide_eq_true c49
            clear c49
            replace H := Option.bind_eq_some_iff.mp H
            obtain ⟨t157, A500, H⟩ := H
            replace H : (if (x0_27.extract (x5_27 : Int).toNat x0_27.size).toList = ([] : List UInt8) then (bastionref14_hosted.j4 kj27 (x0_27.extract (x5_27 : Int).toNat x0_27.size) false 5 t157 x153002_12 x153003_27 0 false false (⟨#[]⟩ : ByteArray)) else (if 0 < ((x0_27.extract (x5_27 : Int).toNat x0_27.size).size : Int) then (bastionref14_hosted.j4 kj27 (x0_27.extract (x5_27 : Int).toNat x0_27.size) ((bt (x0_27.extract (x5_27 : Int).toNat x0_27.size) 0) == 58) 5 t157 x153002_12 x153003_27 0 false false (⟨#[]⟩ : ByteArray)) else (none))) = some (r1, r2, r3, r4, r5, r6, r7, r8, r9) := H
            have A50 := Aside0.mk A500
            clear A500
            have c51b0 := eq_true (of_decide_eq_true (by first | (with_reducible assumption) | assumption) : 0 ≤ x5_27)
            have c52b0 := eq_true (of_decide_eq_true (by first | (with_reducible assumption) | assumption) : x5_27 ≤ (x0_27.size : Int))
            have HC53 := Aside0.mk H
            clear H
            go_upto_region 18 with (first | ((with_reducible refine gate_callee (f := 46) rfl ?_); refine goesL_ (some 66) rfl rfl Tryz.func46 (by kernel_rfl) rfl #[.string (x0_27.extract 0 (x5_27 : Int).toNat)] rfl (by (try simp only [List.map_toArray, List.map_cons, List.map_nil]); first | done | rfl | (simp only [List.length_drop, List.length_take]; rfl)) ?_; (with_reducible refine (bastionref01_Lower.calls kj27 (x0_27.extract 0 (x5_27 : Int).toNat) t157 _ A50.out).mono ?_); rintro e w54 ⟨rfl, hb⟩; refine ⟨_, rfl, ?_⟩; have n0_ := Aside0.mk (blk_below (g := gb151) (o := .cells #[.int .u8 0, .string ⟨#[]⟩, .string ⟨#[]⟩, .bool false, .int .i64 0, .bool false, .bool false, .string ⟨#[]⟩] 40 (0, 0)) (by (with_reducible repeat (first | refine blk_drewN ?_ _ | refine blk_drew ?_ | refine blk_alloc ?_ _)); exact BK151.out) hb); have n1_ := Aside0.mk (blk_below (g := gb152) (o := .cells #[.int .u8 5, .string ⟨#[]⟩, .string x153002_12, .bool x153003_27, .int .i64 0, .bool false, .bool false, .string ⟨#[]⟩] 40 (0, 0)) (by (with_reducible repeat (first | refine blk_drewN ?_ _ | refine blk_drew ?_ | refine blk_alloc ?_ _)); exact BK152.out) hb); have n2_ := Aside0.mk (below_step (by repeat (first | (with_reducible first | exact HB.out | apply below_alloc | apply pw_below_drewN | apply below_drew1 | refine below_set ?_ GE151.out | refine below_set ?_ GE152.out) | exact HB.out)) hb); clear BK151; clear BK152; clear HB; have BK151 := n0_; have BK152 := n1_; have HB := n2_; clear n0_ n1_ n2_; (try clear hb); (try clear hb2); (try clear hk); (try clear hi); have hnb55 := NB152_151.out; have hnc55 := NB151_152.out; obtain ⟨hcz56_0, hcz56_1, hcz56_2, hcz56_3, hcz56_4, hcz56_5, hcz56_6, hcz56_7, hfz56_0, hfz56_1, hfz56_2, hfz56_3, hfz56_4, hfz56_5, hfz56_6, hfz56_7⟩ := cells8 BK152.out))
            (try simp only [Act.put, List.setIfInBounds_toArray, List.set_cons_zero, List.set_cons_succ])
            go_cut [77] (fun v77 wc => ∃ (kq : Nat) (x77_52 : Bool), v77 = .bool x77_52 ∧ Aside0 (bastionref14_hosted.j4 kq (x0_27.extract (x5_27 : Int).toNat x0_27.size) x77_52 5 t157 x153002_12 x153003_27 0 false false (⟨#[]⟩ : ByteArray) = some (r1, r2, r3, r4, r5, r6, r7, r8, r9)) ∧ Aside0 (kq ≤ kj27) ∧ Aside0 (wc.heap[gb151]? = some (.cells #[.int .u8 0, .string ⟨#[]⟩, .string ⟨#[]⟩, .bool false, .int .i64 0, .bool false, .bool false, .string ⟨#[]⟩] 40 (0, 0))) ∧ Aside0 (wc.heap[gb152]? = some (.cells #[.int .u8 5, .string t157, .string x153002_12, .bool x153003_27, .int .i64 0, .bool false, .bool false, .string ⟨#[]⟩] 40 (0, 0))) ∧ Aside0 (Below w.heap.size w wc))
            case first =>
             have H := HC53.out
             clear HC53
             by_cases c57 : (x0_27.extract (x5_27 : Int).toNat x0_27.size).toList = ([] : List UInt8)
             ·rw [if_pos c57] at H
              have c57b0 : ((x0_27.extract (x5_27 : Int).toNat x0_27.size).toList == ([] : List UInt8)) = true := beq_iff_eq.mpr c57
              have c57b1 : ((x0_27.extract (x5_27 : Int).toNat x0_27.size).toList != ([] : List UInt8)) = false := bne_eq_false_iff_eq.mpr c57
              clear c57
              (first | rw [c57b0] | (simp only [i64_w, i32_w]; rw [c57b0]) | skip)
              have H' := Aside0.mk H
              clear H
              go_wp2
              go_meet
              case rel => exact ⟨_, (false), (by first | rfl | (simp; done) | (simp [*]; done)), H', ⟨by have := HJ2.out; have := HJ12.out; have := HJ23.out; have := HJ27.out; first | omega | exact Nat.le_refl _⟩, ⟨by (with_reducible repeat (first | refine blk_drewN ?_ _ | refine blk_drew ?_ | refine blk_alloc ?_ _)); refine blk_far ?_ NB151_152.out _; (with_reducible repeat (first | refine blk_drewN ?_ _ | refine blk_drew ?_ | refine blk_alloc ?_ _)); exact BK151.out⟩, ⟨by (with_reducible repeat (first | refine blk_drewN ?_ _ | refine blk_drew ?_ | refine blk_alloc ?_ _)); refine blk_put (cs := #[.int .u8 5, .string ⟨#[]⟩, .string x153002_12, .bool x153003_27, .int .i64 0, .bool false, .bool false, .string ⟨#[]⟩]) ?_ 1 _ rfl; (with_reducible repeat (first | refine blk_drewN ?_ _ | refine blk_drew ?_ | refine blk_alloc ?_ _)); exact BK152.out⟩, ⟨by repeat (first | (with_reducible first | exact HB.out | apply below_alloc | apply pw_below_drewN | apply below_drew1 | refine below_set ?_ GE151.out | refine below_set ?_ GE152.out) | exact HB.out)⟩⟩
             ·rw [if_neg c57] at H
              have c57b0 : ((x0_27.extract (x5_27 : Int).toNat x0_27.size).toList == ([] : List UInt8)) = false := beq_eq_false_iff_ne.mpr c57
              have c57b1 : ((x0_27.extract (x5_27 : Int).toNat x0_27.size).toList != ([] : List UInt8)) = true := bne_iff_ne.mpr c57
              (first | rw [c57b0] | (simp only [i64_w, i32_w]; rw [c57b0]) | skip)
              by_cases c58 : 0 < ((x0_27.extract (x5_27 : Int).toNat x0_27.size).size : Int)
              ·rw [if_pos c58] at H
               have c58b0 : decide (0 < ((x0_27.extract (x5_27 : Int).toNat x0_27.size).size : Int)) = true := decide_eq_true c58
               have c58b1 : decide (0 < (x0_27.extract (x5_27 : Int).toNat x0_27.size).size) = true := decide_eq_true (by omega)
               clear c58
               have H' := Aside0.mk H
               clear H
               have p59 : 0 ≤ (0 : Int) := (by omega)
               have q59 : 0 < (x0_27.extract (x5_27 : Int).toNat x0_27.size).size := (by have : (0 : Int) < ((x0_27.extract (x5_27 : Int).toNat x0_27.size).size : Int) := of_decide_eq_true (by first | (with_reducible assumption) | assumption); omega)
               have hx59 := bt_at0 (x0_27.extract (x5_27 : Int).toNat x0_27.size)
               clear p59
               have qi59 : (0 < ((x0_27.extract (x5_27 : Int).toNat x0_27.size).size : Int)) = True := eq_true (of_decide_eq_true (by first | (with_reducible assumption) | assumption))
               replace q59 := eq_true q59
               go_wp2
               go_meet
               case rel => exact ⟨_, (((bt (x0_27.extract (x5_27 : Int).toNat x0_27.size) 0) == 58)), (by first | rfl | (simp; done) | (simp [*]; done)), H', ⟨by have := HJ2.out; have := HJ12.out; have := HJ23.out; have := HJ27.out; first | omega | exact Nat.le_refl _⟩, ⟨by (with_reducible repeat (first | refine blk_drewN ?_ _ | refine blk_drew ?_ | refine blk_alloc ?_ _)); refine blk_far ?_ NB151_152.out _; (with_reducible repeat (first | refine blk_drewN ?_ _ | refine blk_drew ?_ | refine blk_alloc ?_ _)); exact BK151.out⟩, ⟨by (with_reducible repeat (first | refine blk_drewN ?_ _ | refine blk_drew ?_ | refine blk_alloc ?_ _)); refine blk_put (cs := #[.int .u8 5, .string ⟨#[]⟩, .string x153002_12, .bool x153003_27, .int .i64 0, .bool false, .bool false, .string ⟨#[]⟩]) ?_ 1 _ rfl; (with_reducible repeat (first | refine blk_drewN ?_ _ | refine blk_drew ?_ | refine blk_alloc ?_ _)); exact BK152.out⟩, ⟨by repeat (first | (with_reducible first | exact HB.out | apply below_alloc | apply pw_below_drewN | apply below_drew1 | refine below_set ?_ GE151.out | refine below_set ?_ GE152.out) | exact HB.out)⟩⟩
              ·rw [if_neg c58] at H
               exact absurd H (by simp)
            case rest => as_aux_lemma =>
             clear HC53
             obtain ⟨kq, x77_52, rfl, HA, HJ52, BK151, BK152, HB⟩ := hcut
             cases kq with
             | zero => exact absurd HA.out (by simp [bastionref14_hosted.j4])
             | succ kj52 =>
              have H := HA.out
              clear HA
              simp only [bastionref14_hosted.j4] at H
              have HC60 := Aside0.mk H
              clear H
              go_upto_if 77 with (fail)
              go_cut [0] (fun v0 wc => ∃ (kq : Nat) (x0_59 : ByteArray) (x152000_59 : Int) (x152001_59 : ByteArray) (x152002_59 : ByteArray) (x152003_59 : Bool) (x152004_59 : Int) (x152005_59 : Bool) (x152006_59 : Bool) (x152007_59 : ByteArray) (x153004_59 : Int) (x153005_59 : Bool) (x153006_59 : Bool), v0 = .string x0_59 ∧ Aside0 (bastionref14_hosted.j8 kq x0_59 5 t157 x153002_12 x153003_27 x153004_59 x153005_59 x153006_59 (⟨#[]⟩ : ByteArray) = some (r1, r2, r3, r4, r5, r6, r7, r8, r9)) ∧ Aside0 (kq ≤ kj52) ∧ Aside0 (wc.heap[gb151]? = some (.cells #[.int .u8 x152000_59, .string x152001_59, .string x152002_59, .bool x152003_59, .int .i64 x152004_59, .bool x152005_59, .bool x152006_59, .string x152007_59] 40 (0, 0))) ∧ Aside0 (wc.heap[gb152]? = some (.cells #[.int .u8 5, .string t157, .string x153002_12, .bool x153003_27, .int .i64 x153004_59, .bool x153005_59, .bool x153006_59, .string ⟨#[]⟩] 40 (0, 0))) ∧ Aside0 (Below w.heap.size w wc))
              case first =>
               have H := HC60.out
               clear HC60
               by_cases c61 : x77_52 = true
               ·subst c61
                have H1 : (if 1 ≤ ((x0_27.extract (x5_27 : Int).toNat x0_27.size).size : Int) then (bastionref14_hosted.l0 kj52 ((x0_27.extract (x5_27 : Int).toNat x0_27.size).extract 1 (x0_27.extract (x5_27 : Int).toNat x0_27.size).size) 0 5 t157 x153002_12 x153003_27 0 false false (⟨#[]⟩ : ByteArray)) else (none)) = some (r1, r2, r3, r4, r5, r6, r7, r8, r9) := by rw [if_pos rfl] at H; exact H
                clear H
                have H := H1
                clear H1
                by_cases c62 : 1 ≤ ((x0_27.extract (x5_27 : Int).toNat x0_27.size).size : Int)
                ·rw [if_pos c62] at H
                 have c62b0 := eq_true c62
                 have c62b1 : decide (1 ≤ ((x0_27.extract (x5_27 : Int).toNat x0_27.size).size : Int)) = true := decide_eq_true c62
                 clear c62
                 have H' := Aside0.mk H
                 clear H
                 go_wp2
                 go_loopg [6] kj52 (fun kq v6 w' => ∃ (x6_6 : Int) (x152000_6 : Int) (x152001_6 : ByteArray) (x152002_6 : ByteArray) (x152003_6 : Bool) (x152004_6 : Int) (x152005_6 : Bool) (x152006_6 : Bool) (x152007_6 : ByteArray) (x153004_6 : Int), v6 = .int .i64 x6_6 ∧ Aside0 (bastionref14_hosted.l0 kq ((x0_27.extract (x5_27 : Int).toNat x0_27.size).extract 1 (x0_27.extract (x5_27 : Int).toNat x0_27.size).size) x6_6 5 t157 x153002_12 x153003_27 x153004_6 false false (⟨#[]⟩ : ByteArray) = some (r1, r2, r3, r4, r5, r6, r7, r8, r9)) ∧ Aside0 (kq ≤ kj52) ∧ Aside0 (w'.heap[gb151]? = some (.cells #[.int .u8 x152000_6, .string x152001_6, .string x152002_6, .bool x152003_6, .int .i64 x152004_6, .bool x152005_6, .bool x152006_6, .string x152007_6] 40 (0, 0))) ∧ Aside0 (w'.heap[gb152]? = some (.cells #[.int .u8 5, .string t157, .string x153002_12, .bool x153003_27, .int .i64 x153004_6, .bool false, .bool false, .string ⟨#[]⟩] 40 (0, 0))) ∧ Aside0 (Below w.heap.size w w'))
                 case atStart => exact ⟨(0), (0), ((⟨#[]⟩ : ByteArray)), ((⟨#[]⟩ : ByteArray)), (false), (0), (false), (false), ((⟨#[]⟩ : ByteArray)), (0), (by first | rfl | (simp; done) | (simp [*]; done)), H', ⟨Nat.le_refl _⟩, ⟨by (with_reducible repeat (first | refine blk_drewN ?_ _ | refine blk_drew ?_ | refine blk_alloc ?_ _)); exact BK151.out⟩, ⟨by (with_reducible repeat (first | refine blk_drewN ?_ _ | refine blk_drew ?_ | refine blk_alloc ?_ _)); exact BK152.out⟩, ⟨by repeat (first | (with_reducible first | exact HB.out | apply below_alloc | apply pw_below_drewN | apply below_drew1 | refine below_set ?_ GE151.out | refine below_set ?_ GE152.out) | exact HB.out)⟩⟩
                 case round =>
                  clear H'
                  obtain ⟨x6_6, x152000_6, x152001_6, x152002_6, x152003_6, x152004_6, x152005_6, x152006_6, x152007_6, x153004_6, rfl, HA, HK6, BK151, BK152, HB⟩ := hrel
                  cases gk with
                  | zero => exact absurd HA.out (by simp [bastionref14_hosted.l0])
                  | succ k6 =>
                   have H := HA.out
                   clear HA
                   simp only [bastionref14_hosted.l0] at H
                   have HC63 := Aside0.mk H
                   clear H
                   go_upto_region 21 with (fail)
                   go_cut [89] (fun v89 wc => ∃ (kq : Nat) (x89_62 : Bool), v89 = .bool x89_62 ∧ Aside0 (bastionref14_hosted.j6 kq ((x0_27.extract (x5_27 : Int).toNat x0_27.size).extract 1 (x0_27.extract (x5_27 : Int).toNat x0_27.size).size) x6_6 x89_62 5 t157 x153002_12 x153003_27 x153004_6 false false (⟨#[]⟩ : ByteArray) = some (r1, r2, r3, r4, r5, r6, r7, r8, r9)) ∧ Aside0 (kq ≤ k6) ∧ Aside0 (wc.heap[gb151]? = some (.cells #[.int .u8 x152000_6, .string x152001_6, .string x152002_6, .bool x152003_6, .int .i64 x152004_6, .bool x152005_6, .bool x152006_6, .string x152007_6] 40 (0, 0))) ∧ Aside0 (wc.heap[gb152]? = some (.cells #[.int .u8 5, .string t157, .string x153002_12, .bool x153003_27, .int .i64 x153004_6, .bool false, .bool false, .string ⟨#[]⟩] 40 (0, 0))) ∧ Aside0 (Below w.heap.size w wc))
                   case first =>
                    have H := HC63.out
                    clear HC63
                    by_cases c64 : x6_6 < (((x0_27.extract (x5_27 : Int).toNat x0_27.size).extract 1 (x0_27.extract (x5_27 : Int).toNat x0_27.size).size).size : Int)
                    ·rw [if_pos c64] at H
                     have c64b0 : decide (x6_6 < (((x0_27.extract (x5_27 : Int).toNat x0_27.size).extract 1 (x0_27.extract (x5_27 : Int).toNat x0_27.size).size).size : Int)) = true := decide_eq_true c64
                     clear c64
                     (first | rw [c64b0] | (simp only [i64_w, i32_w]; rw [c64b0]) | skip)
                     by_cases c65 : 0 ≤ x6_6
                     ·rw [if_pos c65] at H
                      have c65b0 : decide (0 ≤ x6_6) = true := decide_eq_true c65
                      clear c65
                      replace H := Option.bind_eq_some_iff.mp H
                      obtain ⟨t158, A670, H⟩ := H
                      replace H : (bastionref14_hosted.j6 k6 ((x0_27.extract (x5_27 : Int).toNat x0_27.size).extract 1 (x0_27.extract (x5_27 : Int).toNat x0_27.size).size) x6_6 t158 5 t157 x153002_12 x153003_27 x153004_6 false false (⟨#[]⟩ : ByteArray)) = some (r1, r2, r3, r4, r5, r6, r7, r8, r9) := H
                      have A67 := Aside0.mk A670
                      clear A670
                      have H' := Aside0.mk H
                      clear H
                      have p66 : 0 ≤ (x6_6 : Int) := of_decide_eq_true (by first | (with_reducible assumption) | assumption)
                      have q66 : x6_6 < (((x0_27.extract (x5_27 : Int).toNat x0_27.size).extract 1 (x0_27.extract (x5_27 : Int).toNat x0_27.size).size).size : Int) := of_decide_eq_true (by first | (with_reducible assumption) | assumption)
                      have hx66 := bt_at ((x0_27.extract (x5_27 : Int).toNat x0_27.size).extract 1 (x0_27.extract (x5_27 : Int).toNat x0_27.size).size) x6_6
                      replace p66 := eq_true p66
                      replace q66 := eq_true q66
                      go_wp2_with (first | (go_at_call 79; (with_reducible refine (bastionref14_digit.calls (bt ((x0_27.extract (x5_27 : Int).toNat x0_27.size).extract 1 (x0_27.extract (x5_27 : Int).toNat x0_27.size).size) x6_6) t158 _ A67.out).mono ?_); rintro e w' ⟨rfl, ⟨nd, rfl⟩⟩))
                      go_meet
                      case rel => exact ⟨_, (t158), (by first | rfl | (simp; done) | (simp [*]; done)), H', ⟨by have := HJ2.out; have := HJ12.out; have := HJ23.out; have := HJ27.out; have := HJ52.out; have := HK6.out; first | omega | exact Nat.le_refl _⟩, ⟨by (with_reducible repeat (first | refine blk_drewN ?_ _ | refine blk_drew ?_ | refine blk_alloc ?_ _)); exact BK151.out⟩, ⟨by (with_reducible repeat (first | refine blk_drewN ?_ _ | refine blk_drew ?_ | refine blk_alloc ?_ _)); exact BK152.out⟩, ⟨by repeat (first | (with_reducible first | exact HB.out | apply below_alloc | apply pw_below_drewN | apply below_drew1 | refine below_set ?_ GE151.out | refine below_set ?_ GE152.out) | exact HB.out)⟩⟩
                     ·rw [if_neg c65] at H
                      exact absurd H (by simp)
                    ·rw [if_neg c64] at H
                     have c64b0 : decide (x6_6 < (((x0_27.extract (x5_27 : Int).toNat x0_27.size).extract 1 (x0_27.extract (x5_27 : Int).toNat x0_27.size).size).size : Int)) = false := decide_eq_false c64
                     clear c64
                     (first | rw [c64b0] | (simp only [i64_w, i32_w]; rw [c64b0]) | skip)
                     have H' := Aside0.mk H
                     clear H
                     go_wp2
                     go_meet
                     case rel => exact ⟨_, (false), (by first | rfl | (simp; done) | (simp [*]; done)), H', ⟨by have := HJ2.out; have := HJ12.out; have := HJ23.out; have := HJ27.out; have := HJ52.out; have := HK6.out; first | omega | exact Nat.le_refl _⟩, ⟨by (with_reducible repeat (first | refine blk_drewN ?_ _ | refine blk_drew ?_ | refine blk_alloc ?_ _)); exact BK151.out⟩, ⟨by (with_reducible repeat (first | refine blk_drewN ?_ _ | refine blk_drew ?_ | refine blk_alloc ?_ _)); exact BK152.out⟩, ⟨by repeat (first | (with_reducible first | exact HB.out | apply below_alloc | apply pw_below_drewN | apply below_drew1 | refine below_set ?_ GE151.out | refine below_set ?_ GE152.out) | exact HB.out)⟩⟩
                   case rest => as_aux_lemma =>
                    clear HC63
                    obtain ⟨kq, x89_62, rfl, HA, HJ62, BK151, BK152, HB⟩ := hcut
                    cases kq with
                    | zero => exact absurd HA.out (by simp [bastionref14_hosted.j6])
                    | succ kj62 =>
                     have H := HA.out
                     clear HA
                     simp only [bastionref14_hosted.j6] at H
                     by_cases c68 : x89_62 = true
                     ·subst c68
                      have H1 : (if 0 ≤ x6_6 then (if x6_6 < (((x0_27.extract (x5_27 : Int).toNat x0_27.size).extract 1 (x0_27.extract (x5_27 : Int).toNat x0_27.size).size).size : Int) then (if (wrap64 (x6_6 + 1)) > 5 then (some (5, t157, x153002_12, x153003_27, wrap64 ((wrap64 (10 * x153004_6)) + (((bt ((x0_27.extract (x5_27 : Int).toNat x0_27.size).extract 1 (x0_27.extract (x5_27 : Int).toNat x0_27.size).size) x6_6) - 48) % 256)), false, false, (⟨#[]⟩ : ByteArray), false)) else (bastionref14_hosted.l0 kj62 ((x0_27.extract (x5_27 : Int).toNat x0_27.size).extract 1 (x0_27.extract (x5_27 : Int).toNat x0_27.size).size) (wrap64 (x6_6 + 1)) 5 t157 x153002_12 x153003_27 (wrap64 ((wrap64 (10 * x153004_6)) + (((bt ((x0_27.extract (x5_27 : Int).toNat x0_27.size).extract 1 (x0_27.extract (x5_27 : Int).toNat x0_27.size).size) x6_6) - 48) % 256))) false false (⟨#[]⟩ : ByteArray))) else (none)) else (none)) = some (r1, r2, r3, r4, r5, r6, r7, r8, r9) := by rw [if_pos rfl] at H; exact H
                      clear H
                      have H := H1
                      clear H1
                      by_cases c69 : 0 ≤ x6_6
                      ·rw [if_pos c69] at H
                       have c69b0 : decide (0 ≤ x6_6) = true := decide_eq_true c69
                       clear c69
                       by_cases c70 : x6_6 < (((x0_27.extract (x5_27 : Int).toNat x0_27.size).extract 1 (x0_27.extract (x5_27 : Int).toNat x0_27.size).size).size : Int)
                       ·rw [if_pos c70] at H
                        have c70b0 : decide (x6_6 < (((x0_27.extract (x5_27 : Int).toNat x0_27.size).extract 1 (x0_27.extract (x5_27 : Int).toNat x0_27.size).size).size : Int)) = true := decide_eq_true c70
                        clear c70
                        by_cases c72 : (wrap64 (x6_6 + 1)) > 5
                        ·rw [if_pos c72] at H
                         have c72b0 : decide (5 < (wrap64 (x6_6 + 1))) = true := decide_eq_true c72
                         clear c72
                         simp only [Option.some.injEq, Prod.mk.injEq] at H
                         obtain ⟨rfl, rfl, rfl, rfl, rfl, rfl, rfl, rfl, rfl⟩ := H
                         try go_wp2
                         have n0_ := Aside0.mk (blk_drew BK151.out)
                         have n1_ := Aside0.mk (blk_drew BK152.out)
                         have n2_ := Aside0.mk (below_drew1 HB.out)
                         clear BK151
                         clear BK152
                         clear HB
                         have BK151 := n0_
                         have BK152 := n1_
                         have HB := n2_
                         clear n0_ n1_ n2_
                         have p71 : 0 ≤ (x6_6 : Int) := of_decide_eq_true (by first | (with_reducible assumption) | assumption)
                         have q71 : x6_6 < (((x0_27.extract (x5_27 : Int).toNat x0_27.size).extract 1 (x0_27.extract (x5_27 : Int).toNat x0_27.size).size).size : Int) := of_decide_eq_true (by first | (with_reducible assumption) | assumption)
                         have hx71 := bt_at ((x0_27.extract (x5_27 : Int).toNat x0_27.size).extract 1 (x0_27.extract (x5_27 : Int).toNat x0_27.size).size) x6_6
                         replace p71 := eq_true p71
                         replace q71 := eq_true q71
                         refine start_ (n := 11) (S := fun w' => w'.cell? ⟨gb152, 0, none⟩ = some (.int .u8 5) ∧ w'.cell? ⟨gb152, 1, none⟩ = some (.string t157) ∧ w'.cell? ⟨gb152, 2, none⟩ = some (.string x153002_12) ∧ w'.cell? ⟨gb152, 3, none⟩ = some (.bool x153003_27) ∧ w'.cell? ⟨gb152, 4, none⟩ = some (.int .i64 x153004_6) ∧ w'.cell? ⟨gb152, 5, none⟩ = some (.bool false) ∧ w'.cell? ⟨gb152, 6, none⟩ = some (.bool false) ∧ w'.cell? ⟨gb152, 7, none⟩ = some (.string ⟨#[]⟩)) (ds := [10]) #[false, false, false, false, false, false, false, false, false, false, false] (by kernel_rfl) rfl rfl ⟨(blk_cell BK152.out 0).trans rfl, (blk_cell BK152.out 1).trans rfl, (blk_cell BK152.out 2).trans rfl, (blk_cell BK152.out 3).trans rfl, (blk_cell BK152.out 4).trans rfl, (blk_cell BK152.out 5).trans rfl, (blk_cell BK152.out 6).trans rfl, (blk_cell BK152.out 7).trans rfl⟩ (fun hHeld => ?_); refine with_tabW bastionref14_hosted.tab22 bastionref14_hosted.bits22 (fun HT_ HW_ => ?_)
                         generalize wc.drew = w73 at BK151 BK152 HB hHeld ⊢
                         refine pure_ (i := 0) (N := some 90) (v := ?_) (a' := ?_) #[true, false, false, false, false, false, false, false, false, false, false] rfl rfl (any_of HT_.out (by kernel_rfl)) (fun _ _ _ h => h) (Or.inl ⟨by rfl, ?_⟩) ?_ ?_
                         rotate_left
                         ·intro w'
                          go_simp
                          with_reducible rfl
                         rotate_left
                         ·simp only [Act.put, List.setIfInBounds_toArray, List.set_cons_zero, List.set_cons_succ, i64_w, i32_w]
                          rfl
                         refine pure_ (i := 3) (N := some 93) (v := ?_) (a' := ?_) #[true, false, false, true, false, false, false, false, false, false, false] rfl rfl (any_of HT_.out (by kernel_rfl)) (fun _ _ _ h => h) (Or.inl ⟨by rfl, ?_⟩) ?_ ?_
                         rotate_left
                         ·intro w'
                          go_simp
                          with_reducible rfl
                         rotate_left
                         ·simp only [Act.put, List.setIfInBounds_toArray, List.set_cons_zero, List.set_cons_succ, i64_w, i32_w]
                          rfl
                         refine pure_ (i := 4) (N := some 94) (v := ?_) (a' := ?_) #[true, false, false, true, true, false, false, false, false, false, false] rfl rfl (any_of HT_.out (by kernel_rfl)) (fun _ _ _ h => h) (Or.inl ⟨by rfl, ?_⟩) ?_ ?_
                         rotate_left
                         ·intro w'
                          go_simp
                          with_reducible rfl
                         rotate_left
                         ·simp only [Act.put, List.setIfInBounds_toArray, List.set_cons_zero, List.set_cons_succ, i64_w, i32_w]
                          rfl
                         refine take_ (i := 1) (N := some 91) (v := ?_) (a' := ?_) #[true, true, false, true, true, false, false, false, false, false, false] rfl rfl (take_ofW HT_.out HW_.out (by kernel_rfl)) (fun _ _ _ h => h) (Or.inl ⟨by rfl, ?_⟩) hHeld ?_ ?_
                         rotate_left
                         ·rintro w' ⟨s0, s1, s2, s3, s4, s5, s6, s7⟩
                          go_simp
                          with_reducible rfl
                         rotate_left
                         ·simp only [Act.put, List.setIfInBounds_toArray, List.set_cons_zero, List.set_cons_succ, i64_w, i32_w]
                          rfl
                         refine pure_ (i := 2) (N := some 92) (v := ?_) (a' := ?_) #[true, true, true, true, true, false, false, false, false, false, false] rfl rfl (any_of HT_.out (by kernel_rfl)) (fun _ _ _ h => h) (Or.inl ⟨by rfl, ?_⟩) ?_ ?_
                         rotate_left
                         ·intro w'
                          go_simp
                          with_reducible rfl
                         rotate_left
                         ·simp only [Act.put, List.setIfInBounds_toArray, List.set_cons_zero, List.set_cons_succ, i64_w, i32_w]
                          rfl
                         refine take_ (i := 5) (N := some 95) (v := ?_) (a' := ?_) #[true, true, true, true, true, true, false, false, false, false, false] rfl rfl (take_ofW HT_.out HW_.out (by kernel_rfl)) (fun _ _ _ h => h) (Or.inl ⟨by rfl, ?_⟩) hHeld ?_ ?_
                         rotate_left
                         ·rintro w' ⟨s0, s1, s2, s3, s4, s5, s6, s7⟩
                          go_simp
                          with_reducible rfl
                         rotate_left
                         ·simp only [Act.put, List.setIfInBounds_toArray, List.set_cons_zero, List.set_cons_succ, i64_w, i32_w]
                          rfl
                         refine pure_ (i := 6) (N := some 96) (v := ?_) (a' := ?_) #[true, true, true, true, true, true, true, false, false, false, false] rfl rfl (any_of HT_.out (by kernel_rfl)) (fun _ _ _ h => h) (Or.inl ⟨by rfl, ?_⟩) ?_ ?_
                         rotate_left
                         ·intro w'
                          go_simp
                          with_reducible rfl
                         rotate_left
                         ·simp only [Act.put, List.setIfInBounds_toArray, List.set_cons_zero, List.set_cons_succ, i64_w, i32_w]
                          rfl
                         refine pure_ (i := 7) (N := some 97) (v := ?_) (a' := ?_) #[true, true, true, true, true, true, true, true, false, false, false] rfl rfl (any_of HT_.out (by kernel_rfl)) (fun _ _ _ h => h) (Or.inl ⟨by rfl, ?_⟩) ?_ ?_
                         rotate_left
                         ·intro w'
                          go_simp
                          with_reducible rfl
                         rotate_left
                         ·simp only [Act.put, List.setIfInBounds_toArray, List.set_cons_zero, List.set_cons_succ, i64_w, i32_w]
                          rfl
                         refine pure_ (i := 8) (N := some 98) (v := ?_) (a' := ?_) #[true, true, true, true, true, true, true, true, true, false, false] rfl rfl (any_of HT_.out (by kernel_rfl)) (fun _ _ _ h => h) (Or.inl ⟨by rfl, ?_⟩) ?_ ?_
                         rotate_left
                         ·intro w'
                          go_simp
                          with_reducible rfl
                         rotate_left
                         ·simp only [Act.put, List.setIfInBounds_toArray, List.set_cons_zero, List.set_cons_succ, i64_w, i32_w]
                          rfl
                         refine pure_ (i := 9) (N := some 99) (v := ?_) (a' := ?_) #[true, true, true, true, true, true, true, true, true, true, false] rfl rfl (any_of HT_.out (by kernel_rfl)) (fun _ _ _ h => h) (Or.inl ⟨by rfl, ?_⟩) ?_ ?_
                         rotate_left
                         ·intro w'
                          go_simp
                          with_reducible rfl
                         rotate_left
                         ·simp only [Act.put, List.setIfInBounds_toArray, List.set_cons_zero, List.set_cons_succ, i64_w, i32_w]
                          rfl
                         refine last_ (i := 10) (N := none) #[true, true, true, true, true, true, true, true, true, true, true] rfl rfl (one_of HT_.out (by kernel_rfl)) (by decide) (fun K hK => ?_)
                         have hs74 : w73.cell? ⟨gb152, 4, none⟩ = some (.int .i64 x153004_6) := (blk_cell BK152.out 4).trans rfl
                         have hfs74 := blk_frozen BK152.out 4
                         have hns74_0 := NB151_152.out
                         have hms74_0 := NB152_151.out
                         refine skip_ (w1 := ?_) (by rfl) rfl ?_ ?_
                         rotate_left
                         ·go_simp
                          rfl
                         refine hK.out _ _ ?_
                         clear hK K
                         refine done_ (done_of HT_.out (by kernel_rfl)) ?_
                         go_upto_region 25 with (fail)
                         refine hcopy (blk_put BK152.out 4 _ rfl) (blk_far BK151.out NB151_152.out _) NB151_152.out (below_set HB.out GE152.out) GE151.out rfl rfl (show 4 < 104 by decide) (show 104 < 164 by decide) ?_
                         intro a' w' hd hres hb
                         try dsimp only [Exit.then, Exit.inBlock]
                         refine (by assumption : ∀ (a : Act) (w : World), Code.wp _ Code.ret _ a w → _) _ _ ?_
                         refine hwp_ret ?_
                         try dsimp only [Exit.then, Exit.inBlock]
                         exact bodyPost_ret hres hd ⟨rfl, hb⟩
                        ·rw [if_neg c72] at H
                         have c72b0 : decide (5 < (wrap64 (x6_6 + 1))) = false := decide_eq_false c72
                         clear c72
                         have H' := Aside0.mk H
                         clear H
                         try go_wp2
                         have n0_ := Aside0.mk (blk_drew BK151.out)
                         have n1_ := Aside0.mk (blk_drew BK152.out)
                         have n2_ := Aside0.mk (below_drew1 HB.out)
                         clear BK151
                         clear BK152
                         clear HB
                         have BK151 := n0_
                         have BK152 := n1_
                         have HB := n2_
                         clear n0_ n1_ n2_
                         have p71 : 0 ≤ (x6_6 : Int) := of_decide_eq_true (by first | (with_reducible assumption) | assumption)
                         have q71 : x6_6 < (((x0_27.extract (x5_27 : Int).toNat x0_27.size).extract 1 (x0_27.extract (x5_27 : Int).toNat x0_27.size).size).size : Int) := of_decide_eq_true (by first | (with_reducible assumption) | assumption)
                         have hx71 := bt_at ((x0_27.extract (x5_27 : Int).toNat x0_27.size).extract 1 (x0_27.extract (x5_27 : Int).toNat x0_27.size).size) x6_6
                         replace p71 := eq_true p71
                         replace q71 := eq_true q71
                         refine start_ (n := 11) (S := fun w' => w'.cell? ⟨gb152, 0, none⟩ = some (.int .u8 5) ∧ w'.cell? ⟨gb152, 1, none⟩ = some (.string t157) ∧ w'.cell? ⟨gb152, 2, none⟩ = some (.string x153002_12) ∧ w'.cell? ⟨gb152, 3, none⟩ = some (.bool x153003_27) ∧ w'.cell? ⟨gb152, 4, none⟩ = some (.int .i64 x153004_6) ∧ w'.cell? ⟨gb152, 5, none⟩ = some (.bool false) ∧ w'.cell? ⟨gb152, 6, none⟩ = some (.bool false) ∧ w'.cell? ⟨gb152, 7, none⟩ = some (.string ⟨#[]⟩)) (ds := [10]) #[false, false, false, false, false, false, false, false, false, false, false] (by kernel_rfl) rfl rfl ⟨(blk_cell BK152.out 0).trans rfl, (blk_cell BK152.out 1).trans rfl, (blk_cell BK152.out 2).trans rfl, (blk_cell BK152.out 3).trans rfl, (blk_cell BK152.out 4).trans rfl, (blk_cell BK152.out 5).trans rfl, (blk_cell BK152.out 6).trans rfl, (blk_cell BK152.out 7).trans rfl⟩ (fun hHeld => ?_); refine with_tabW bastionref14_hosted.tab22 bastionref14_hosted.bits22 (fun HT_ HW_ => ?_)
                         generalize wc.drew = w78 at BK151 BK152 HB hHeld ⊢
                         refine pure_ (i := 0) (N := some 90) (v := ?_) (a' := ?_) #[true, false, false, false, false, false, false, false, false, false, false] rfl rfl (any_of HT_.out (by kernel_rfl)) (fun _ _ _ h => h) (Or.inl ⟨by rfl, ?_⟩) ?_ ?_
                         rotate_left
                         ·intro w'
                          go_simp
                          with_reducible rfl
                         rotate_left
                         ·simp only [Act.put, List.setIfInBounds_toArray, List.set_cons_zero, List.set_cons_succ, i64_w, i32_w]
                          rfl
                         refine pure_ (i := 3) (N := some 93) (v := ?_) (a' := ?_) #[true, false, false, true, false, false, false, false, false, false, false] rfl rfl (any_of HT_.out (by kernel_rfl)) (fun _ _ _ h => h) (Or.inl ⟨by rfl, ?_⟩) ?_ ?_
                         rotate_left
                         ·intro w'
                          go_simp
                          with_reducible rfl
                         rotate_left
                         ·simp only [Act.put, List.setIfInBounds_toArray, List.set_cons_zero, List.set_cons_succ, i64_w, i32_w]
                          rfl
                         refine pure_ (i := 4) (N := some 94) (v := ?_) (a' := ?_) #[true, false, false, true, true, false, false, false, false, false, false] rfl rfl (any_of HT_.out (by kernel_rfl)) (fun _ _ _ h => h) (Or.inl ⟨by rfl, ?_⟩) ?_ ?_
                         rotate_left
                         ·intro w'
                          go_simp
                          with_reducible rfl
                         rotate_left
                         ·simp only [Act.put, List.setIfInBounds_toArray, List.set_cons_zero, List.set_cons_succ, i64_w, i32_w]
                          rfl
                         refine take_ (i := 1) (N := some 91) (v := ?_) (a' := ?_) #[true, true, false, true, true, false, false, false, false, false, false] rfl rfl (take_ofW HT_.out HW_.out (by kernel_rfl)) (fun _ _ _ h => h) (Or.inl ⟨by rfl, ?_⟩) hHeld ?_ ?_
                         rotate_left
                         ·rintro w' ⟨s0, s1, s2, s3, s4, s5, s6, s7⟩
                          go_simp
                          with_reducible rfl
                         rotate_left
                         ·simp only [Act.put, List.setIfInBounds_toArray, List.set_cons_zero, List.set_cons_succ, i64_w, i32_w]
                          rfl
                         refine pure_ (i := 2) (N := some 92) (v := ?_) (a' := ?_) #[true, true, true, true, true, false, false, false, false, false, false] rfl rfl (any_of HT_.out (by kernel_rfl)) (fun _ _ _ h => h) (Or.inl ⟨by rfl, ?_⟩) ?_ ?_
                         rotate_left
                         ·intro w'
                          go_simp
                          with_reducible rfl
                         rotate_left
                         ·simp only [Act.put, List.setIfInBounds_toArray, List.set_cons_zero, List.set_cons_succ, i64_w, i32_w]
                          rfl
                         refine take_ (i := 5) (N := some 95) (v := ?_) (a' := ?_) #[true, true, true, true, true, true, false, false, false, false, false] rfl rfl (take_ofW HT_.out HW_.out (by kernel_rfl)) (fun _ _ _ h => h) (Or.inl ⟨by rfl, ?_⟩) hHeld ?_ ?_
                         rotate_left
                         ·rintro w' ⟨s0, s1, s2, s3, s4, s5, s6, s7⟩
                          go_simp
                          with_reducible rfl
                         rotate_left
                         ·simp only [Act.put, List.setIfInBounds_toArray, List.set_cons_zero, List.set_cons_succ, i64_w, i32_w]
                          rfl
                         refine pure_ (i := 6) (N := some 96) (v := ?_) (a' := ?_) #[true, true, true, true, true, true, true, false, false, false, false] rfl rfl (any_of HT_.out (by kernel_rfl)) (fun _ _ _ h => h) (Or.inl ⟨by rfl, ?_⟩) ?_ ?_
                         rotate_left
                         ·intro w'
                          go_simp
                          with_reducible rfl
                         rotate_left
                         ·simp only [Act.put, List.setIfInBounds_toArray, List.set_cons_zero, List.set_cons_succ, i64_w, i32_w]
                          rfl
                         refine pure_ (i := 7) (N := some 97) (v := ?_) (a' := ?_) #[true, true, true, true, true, true, true, true, false, false, false] rfl rfl (any_of HT_.out (by kernel_rfl)) (fun _ _ _ h => h) (Or.inl ⟨by rfl, ?_⟩) ?_ ?_
                         rotate_left
                         ·intro w'
                          go_simp
                          with_reducible rfl
                         rotate_left
                         ·simp only [Act.put, List.setIfInBounds_toArray, List.set_cons_zero, List.set_cons_succ, i64_w, i32_w]
                          rfl
                         refine pure_ (i := 8) (N := some 98) (v := ?_) (a' := ?_) #[true, true, true, true, true, true, true, true, true, false, false] rfl rfl (any_of HT_.out (by kernel_rfl)) (fun _ _ _ h => h) (Or.inl ⟨by rfl, ?_⟩) ?_ ?_
                         rotate_left
                         ·intro w'
                          go_simp
                          with_reducible rfl
                         rotate_left
                         ·simp only [Act.put, List.setIfInBounds_toArray, List.set_cons_zero, List.set_cons_succ, i64_w, i32_w]
                          rfl
                         refine pure_ (i := 9) (N := some 99) (v := ?_) (a' := ?_) #[true, true, true, true, true, true, true, true, true, true, false] rfl rfl (any_of HT_.out (by kernel_rfl)) (fun _ _ _ h => h) (Or.inl ⟨by rfl, ?_⟩) ?_ ?_
                         rotate_left
                         ·intro w'
                          go_simp
                          with_reducible rfl
                         rotate_left
                         ·simp only [Act.put, List.setIfInBounds_toArray, List.set_cons_zero, List.set_cons_succ, i64_w, i32_w]
                          rfl
                         refine last_ (i := 10) (N := none) #[true, true, true, true, true, true, true, true, true, true, true] rfl rfl (one_of HT_.out (by kernel_rfl)) (by decide) (fun K hK => ?_)
                         have hs79 : w78.cell? ⟨gb152, 4, none⟩ = some (.int .i64 x153004_6) := (blk_cell BK152.out 4).trans rfl
                         have hfs79 := blk_frozen BK152.out 4
                         have hns79_0 := NB151_152.out
                         have hms79_0 := NB152_151.out
                         refine skip_ (w1 := ?_) (by rfl) rfl ?_ ?_
                         rotate_left
                         ·go_simp
                          rfl
                         refine hK.out _ _ ?_
                         clear hK K
                         refine done_ (done_of HT_.out (by kernel_rfl)) ?_
                         try go_wp2
                         go_roundg kj62
                         case measure => have := HJ2.out; have := HJ12.out; have := HJ23.out; have := HJ27.out; have := HJ52.out; have := HK6.out; have := HJ62.out; omega
                         case rel => exact ⟨(wrap64 (x6_6 + 1)), (x152000_6), (x152001_6), (x152002_6), (x152003_6), (x152004_6), (x152005_6), (x152006_6), (x152007_6), (wrap64 ((wrap64 (10 * x153004_6)) + (((bt ((x0_27.extract (x5_27 : Int).toNat x0_27.size).extract 1 (x0_27.extract (x5_27 : Int).toNat x0_27.size).size) x6_6) - 48) % 256))), (by first | rfl | (simp; done) | (simp [*]; done)), H', ⟨by have := HJ2.out; have := HJ12.out; have := HJ23.out; have := HJ27.out; have := HJ52.out; have := HK6.out; have := HJ62.out; omega⟩, ⟨by (with_reducible repeat (first | refine blk_drewN ?_ _ | refine blk_drew ?_ | refine blk_alloc ?_ _)); refine blk_far ?_ NB151_152.out _; (with_reducible repeat (first | refine blk_drewN ?_ _ | refine blk_drew ?_ | refine blk_alloc ?_ _)); exact BK151.out⟩, ⟨by (with_reducible repeat (first | refine blk_drewN ?_ _ | refine blk_drew ?_ | refine blk_alloc ?_ _)); refine blk_put (cs := #[.int .u8 5, .string t157, .string x153002_12, .bool x153003_27, .int .i64 x153004_6, .bool false, .bool false, .string ⟨#[]⟩]) ?_ 4 _ rfl; (with_reducible repeat (first | refine blk_drewN ?_ _ | refine blk_drew ?_ | refine blk_alloc ?_ _)); exact BK152.out⟩, ⟨by repeat (first | (with_reducible first | exact HB.out | apply below_alloc | apply pw_below_drewN | apply below_drew1 | refine below_set ?_ GE151.out | refine below_set ?_ GE152.out) | exact HB.out)⟩⟩
                       ·rw [if_neg c70] at H
                        exact absurd H (by simp)
                      ·rw [if_neg c69] at H
                       exact absurd H (by simp)
                     ·replace c68 := Bool.eq_false_iff.mpr c68
                      subst c68
                      have H1 : (if x6_6 = 0 then (if ((x0_27.extract (x5_27 : Int).toNat x0_27.size).extract 1 (x0_27.extract (x5_27 : Int).toNat x0_27.size).size).toList = ([] : List UInt8) then (bastionref14_hosted.j7 kj62 ((x0_27.extract (x5_27 : Int).toNat x0_27.size).extract 1 (x0_27.extract (x5_27 : Int).toNat x0_27.size).size) true 5 t157 x153002_12 x153003_27 x153004_6 false false (⟨#[]⟩ : ByteArray)) else (if 0 < (((x0_27.extract (x5_27 : Int).toNat x0_27.size).extract 1 (x0_27.extract (x5_27 : Int).toNat x0_27.size).size).size : Int) then (bastionref14_hosted.j7 kj62 ((x0_27.extract (x5_27 : Int).toNat x0_27.size).extract 1 (x0_27.extract (x5_27 : Int).toNat x0_27.size).size) ((bt ((x0_27.extract (x5_27 : Int).toNat x0_27.size).extract 1 (x0_27.extract (x5_27 : Int).toNat x0_27.size).size) 0) != 42) 5 t157 x153002_12 x153003_27 x153004_6 false false (⟨#[]⟩ : ByteArray)) else (none))) else (if x153004_6 > 65535 then (some (5, t157, x153002_12, x153003_27, x153004_6, true, false, (⟨#[]⟩ : ByteArray), false)) else (if 0 ≤ x6_6 then (if x6_6 ≤ (((x0_27.extract (x5_27 : Int).toNat x0_27.size).extract 1 (x0_27.extract (x5_27 : Int).toNat x0_27.size).size).size : Int) then (bastionref14_hosted.j8 kj62 (((x0_27.extract (x5_27 : Int).toNat x0_27.size).extract 1 (x0_27.extract (x5_27 : Int).toNat x0_27.size).size).extract (x6_6 : Int).toNat ((x0_27.extract (x5_27 : Int).toNat x0_27.size).extract 1 (x0_27.extract (x5_27 : Int).toNat x0_27.size).size).size) 5 t157 x153002_12 x153003_27 x153004_6 true false (⟨#[]⟩ : ByteArray)) else (none)) else (none)))) = some (r1, r2, r3, r4, r5, r6, r7, r8, r9) := by rw [if_neg (show ¬ (false = true) by decide)] at H; exact H
                      clear H
                      have H := H1
                      clear H1
                      by_cases c80 : x6_6 = 0
                      ·rw [if_pos c80] at H
                       have c80b0 : (x6_6 == 0) = true := beq_iff_eq.mpr c80
                       have c80b1 : (x6_6 != 0) = false := bne_eq_false_iff_eq.mpr c80
                       clear c80
                       have HC81 := Aside0.mk H
                       clear H
                       go_upto_region 27 with (fail)
                       go_cut [113] (fun v113 wc => ∃ (kq : Nat) (x113_80 : Bool), v113 = .bool x113_80 ∧ Aside0 (bastionref14_hosted.j7 kq ((x0_27.extract (x5_27 : Int).toNat x0_27.size).extract 1 (x0_27.extract (x5_27 : Int).toNat x0_27.size).size) x113_80 5 t157 x153002_12 x153003_27 x153004_6 false false (⟨#[]⟩ : ByteArray) = some (r1, r2, r3, r4, r5, r6, r7, r8, r9)) ∧ Aside0 (kq ≤ kj62) ∧ Aside0 (wc.heap[gb151]? = some (.cells #[.int .u8 x152000_6, .string x152001_6, .string x152002_6, .bool x152003_6, .int .i64 x152004_6, .bool x152005_6, .bool x152006_6, .string x152007_6] 40 (0, 0))) ∧ Aside0 (wc.heap[gb152]? = some (.cells #[.int .u8 5, .string t157, .string x153002_12, .bool x153003_27, .int .i64 x153004_6, .bool false, .bool false, .string ⟨#[]⟩] 40 (0, 0))) ∧ Aside0 (Below w.heap.size w wc))
                       case first =>
                        have H := HC81.out
                        clear HC81
                        by_cases c82 : ((x0_27.extract (x5_27 : Int).toNat x0_27.size).extract 1 (x0_27.extract (x5_27 : Int).toNat x0_27.size).size).toList = ([] : List UInt8)
                        ·rw [if_pos c82] at H
                         have c82b0 : (((x0_27.extract (x5_27 : Int).toNat x0_27.size).extract 1 (x0_27.extract (x5_27 : Int).toNat x0_27.size).size).toList == ([] : List UInt8)) = true := beq_iff_eq.mpr c82
                         have c82b1 : (((x0_27.extract (x5_27 : Int).toNat x0_27.size).extract 1 (x0_27.extract (x5_27 : Int).toNat x0_27.size).size).toList != ([] : List UInt8)) = false := bne_eq_false_iff_eq.mpr c82
                         clear c82
                         (first | rw [c82b0] | (simp only [i64_w, i32_w]; rw [c82b0]) | skip)
                         have H' := Aside0.mk H
                         clear H
                         go_wp2
                         go_meet
                         case rel => exact ⟨_, (true), (by first | rfl | (simp; done) | (simp [*]; done)), H', ⟨by have := HJ2.out; have := HJ12.out; have := HJ23.out; have := HJ27.out; have := HJ52.out; have := HK6.out; have := HJ62.out; first | omega | exact Nat.le_refl _⟩, ⟨by (with_reducible repeat (first | refine blk_drewN ?_ _ | refine blk_drew ?_ | refine blk_alloc ?_ _)); exact BK151.out⟩, ⟨by (with_reducible repeat (first | refine blk_drewN ?_ _ | refine blk_drew ?_ | refine blk_alloc ?_ _)); exact BK152.out⟩, ⟨by repeat (first | (with_reducible first | exact HB.out | apply below_alloc | apply pw_below_drewN | apply below_drew1 | refine below_set ?_ GE151.out | refine below_set ?_ GE152.out) | exact HB.out)⟩⟩
                        ·rw [if_neg c82] at H
                         have c82b0 : (((x0_27.extract (x5_27 : Int).toNat x0_27.size).extract 1 (x0_27.extract (x5_27 : Int).toNat x0_27.size).size).toList == ([] : List UInt8)) = false := beq_eq_false_iff_ne.mpr c82
                         have c82b1 : (((x0_27.extract (x5_27 : Int).toNat x0_27.size).extract 1 (x0_27.extract (x5_27 : Int).toNat x0_27.size).size).toList != ([] : List UInt8)) = true := bne_iff_ne.mpr c82
                         (first | rw [c82b0] | (simp only [i64_w, i32_w]; rw [c82b0]) | skip)
                         by_cases c83 : 0 < (((x0_27.extract (x5_27 : Int).toNat x0_27.size).extract 1 (x0_27.extract (x5_27 : Int).toNat x0_27.size).size).size : Int)
                         ·rw [if_pos c83] at H
                          have c83b0 : decide (0 < (((x0_27.extract (x5_27 : Int).toNat x0_27.size).extract 1 (x0_27.extract (x5_27 : Int).toNat x0_27.size).size).size : Int)) = true := decide_eq_true c83
                          have c83b1 : decide (0 < ((x0_27.extract (x5_27 : Int).toNat x0_27.size).extract 1 (x0_27.extract (x5_27 : Int).toNat x0_27.size).size).size) = true := decide_eq_true (by omega)
                          clear c83
                          have H' := Aside0.mk H
                          clear H
                          have p84 : 0 ≤ (0 : Int) := (by omega)
                          have q84 : 0 < ((x0_27.extract (x5_27 : Int).toNat x0_27.size).extract 1 (x0_27.extract (x5_27 : Int).toNat x0_27.size).size).size := (by have : (0 : Int) < (((x0_27.extract (x5_27 : Int).toNat x0_27.size).extract 1 (x0_27.extract (x5_27 : Int).toNat x0_27.size).size).size : Int) := of_decide_eq_true (by first | (with_reducible assumption) | assumption); omega)
                          have hx84 := bt_at0 ((x0_27.extract (x5_27 : Int).toNat x0_27.size).extract 1 (x0_27.extract (x5_27 : Int).toNat x0_27.size).size)
                          clear p84
                          have qi84 : (0 < (((x0_27.extract (x5_27 : Int).toNat x0_27.size).extract 1 (x0_27.extract (x5_27 : Int).toNat x0_27.size).size).size : Int)) = True := eq_true (of_decide_eq_true (by first | (with_reducible assumption) | assumption))
                          replace q84 := eq_true q84
                          go_wp2
                          go_meet
                          case rel => exact ⟨_, (((bt ((x0_27.extract (x5_27 : Int).toNat x0_27.size).extract 1 (x0_27.extract (x5_27 : Int).toNat x0_27.size).size) 0) != 42)), (by first | rfl | (simp; done) | (simp [*]; done)), H', ⟨by have := HJ2.out; have := HJ12.out; have := HJ23.out; have := HJ27.out; have := HJ52.out; have := HK6.out; have := HJ62.out; first | omega | exact Nat.le_refl _⟩, ⟨by (with_reducible repeat (first | refine blk_drewN ?_ _ | refine blk_drew ?_ | refine blk_alloc ?_ _)); exact BK151.out⟩, ⟨by (with_reducible repeat (first | refine blk_drewN ?_ _ | refine blk_drew ?_ | refine blk_alloc ?_ _)); exact BK152.out⟩, ⟨by repeat (first | (with_reducible first | exact HB.out | apply below_alloc | apply pw_below_drewN | apply below_drew1 | refine below_set ?_ GE151.out | refine below_set ?_ GE152.out) | exact HB.out)⟩⟩
                         ·rw [if_neg c83] at H
                          exact absurd H (by simp)
                       case rest => as_aux_lemma =>
                        clear HC81
                        obtain ⟨kq, x113_80, rfl, HA, HJ80, BK151, BK152, HB⟩ := hcut
                        cases kq with
                        | zero => exact absurd HA.out (by simp [bastionref14_hosted.j7])
                        | succ kj80 =>
                         have H := HA.out
                         clear HA
                         simp only [bastionref14_hosted.j7] at H
                         by_cases c85 : x113_80 = true
                         ·subst c85
                          have H1 : (some (5, t157, x153002_12, x153003_27, x153004_6, false, false, (⟨#[]⟩ : ByteArray), false)) = some (r1, r2, r3, r4, r5, r6, r7, r8, r9) := by rw [if_pos rfl] at H; exact H
                          clear H
                          have H := H1
                          clear H1
                          simp only [Option.some.injEq, Prod.mk.injEq] at H
                          obtain ⟨rfl, rfl, rfl, rfl, rfl, rfl, rfl, rfl, rfl⟩ := H
                          go_upto_region 28 with (fail)
                          refine hcopy BK152.out BK151.out NB151_152.out HB.out GE151.out rfl rfl (show 4 < 114 by decide) (show 114 < 164 by decide) ?_
                          intro a' w' hd hres hb
                          try dsimp only [Exit.then, Exit.inBlock]
                          refine (by assumption : ∀ (a : Act) (w : World), Code.wp _ Code.ret _ a w → _) _ _ ?_
                          refine hwp_ret ?_
                          try dsimp only [Exit.then, Exit.inBlock]
                          exact bodyPost_ret hres hd ⟨rfl, hb⟩
                         ·replace c85 := Bool.eq_false_iff.mpr c85
                          subst c85
                          have H1 : (if x153004_6 > 65535 then (some (5, t157, x153002_12, x153003_27, x153004_6, false, true, (⟨#[]⟩ : ByteArray), false)) else (if 1 ≤ (((x0_27.extract (x5_27 : Int).toNat x0_27.size).extract 1 (x0_27.extract (x5_27 : Int).toNat x0_27.size).size).size : Int) then (bastionref14_hosted.j8 kj80 (((x0_27.extract (x5_27 : Int).toNat x0_27.size).extract 1 (x0_27.extract (x5_27 : Int).toNat x0_27.size).size).extract 1 ((x0_27.extract (x5_27 : Int).toNat x0_27.size).extract 1 (x0_27.extract (x5_27 : Int).toNat x0_27.size).size).size) 5 t157 x153002_12 x153003_27 x153004_6 false true (⟨#[]⟩ : ByteArray)) else (none))) = some (r1, r2, r3, r4, r5, r6, r7, r8, r9) := by rw [if_neg (show ¬ (false = true) by decide)] at H; exact H
                          clear H
                          have H := H1
                          clear H1
                          by_cases c89 : x153004_6 > 65535
                          ·rw [if_pos c89] at H
                           have c89b0 : decide (65535 < x153004_6) = true := decide_eq_true c89
                           clear c89
                           simp only [Option.some.injEq, Prod.mk.injEq] at H
                           obtain ⟨rfl, rfl, rfl, rfl, rfl, rfl, rfl, rfl, rfl⟩ := H
                           have hnb90 := NB152_151.out
                           have hnc90 := NB151_152.out
                           obtain ⟨hcz91_0, hcz91_1, hcz91_2, hcz91_3, hcz91_4, hcz91_5, hcz91_6, hcz91_7, hfz91_0, hfz91_1, hfz91_2, hfz91_3, hfz91_4, hfz91_5, hfz91_6, hfz91_7⟩ := cells8 BK152.out
                           obtain ⟨hcz92_0, hcz92_1, hcz92_2, hcz92_3, hcz92_4, hcz92_5, hcz92_6, hcz92_7, hfz92_0, hfz92_1, hfz92_2, hfz92_3, hfz92_4, hfz92_5, hfz92_6, hfz92_7⟩ := cells8 BK151.out
                           go_upto_region 33 with (fail)
                           refine hcopy (blk_put BK152.out 6 _ rfl) (blk_far BK151.out NB151_152.out _) NB151_152.out (below_set HB.out GE152.out) GE151.out rfl rfl (show 4 < 120 by decide) (show 120 < 164 by decide) ?_
                           intro a' w' hd hres hb
                           try dsimp only [Exit.then, Exit.inBlock]
                           refine (by assumption : ∀ (a : Act) (w : World), Code.wp _ Code.ret _ a w → _) _ _ ?_
                           refine hwp_ret ?_
                           try dsimp only [Exit.then, Exit.inBlock]
                           exact bodyPost_ret hres hd ⟨rfl, hb⟩
                          ·rw [if_neg c89] at H
                           have c89b0 : decide (65535 < x153004_6) = false := decide_eq_false c89
                           clear c89
                           by_cases c93 : 1 ≤ (((x0_27.extract (x5_27 : Int).toNat x0_27.size).extract 1 (x0_27.extract (x5_27 : Int).toNat x0_27.size).size).size : Int)
                           ·rw [if_pos c93] at H
                            have c93b0 := eq_true c93
                            have c93b1 : decide (1 ≤ (((x0_27.extract (x5_27 : Int).toNat x0_27.size).extract 1 (x0_27.extract (x5_27 : Int).toNat x0_27.size).size).size : Int)) = true := decide_eq_true c93
                            clear c93
                            have H' := Aside0.mk H
                            clear H
                            have hnb94 := NB152_151.out
                            have hnc94 := NB151_152.out
                            obtain ⟨hcz95_0, hcz95_1, hcz95_2, hcz95_3, hcz95_4, hcz95_5, hcz95_6, hcz95_7, hfz95_0, hfz95_1, hfz95_2, hfz95_3, hfz95_4, hfz95_5, hfz95_6, hfz95_7⟩ := cells8 BK152.out
                            go_wp2
                            go_meet
                            case rel => exact ⟨_, (((x0_27.extract (x5_27 : Int).toNat x0_27.size).extract 1 (x0_27.extract (x5_27 : Int).toNat x0_27.size).size).extract 1 ((x0_27.extract (x5_27 : Int).toNat x0_27.size).extract 1 (x0_27.extract (x5_27 : Int).toNat x0_27.size).size).size), (x152000_6), (x152001_6), (x152002_6), (x152003_6), (x152004_6), (x152005_6), (x152006_6), (x152007_6), (x153004_6), (false), (true), (by first | rfl | (simp; done) | (simp [*]; done)), H', ⟨by have := HJ2.out; have := HJ12.out; have := HJ23.out; have := HJ27.out; have := HJ52.out; have := HK6.out; have := HJ62.out; have := HJ80.out; first | omega | exact Nat.le_refl _⟩, ⟨by (with_reducible repeat (first | refine blk_drewN ?_ _ | refine blk_drew ?_ | refine blk_alloc ?_ _)); refine blk_far ?_ NB151_152.out _; (with_reducible repeat (first | refine blk_drewN ?_ _ | refine blk_drew ?_ | refine blk_alloc ?_ _)); exact BK151.out⟩, ⟨by (with_reducible repeat (first | refine blk_drewN ?_ _ | refine blk_drew ?_ | refine blk_alloc ?_ _)); refine blk_put (cs := #[.int .u8 5, .string t157, .string x153002_12, .bool x153003_27, .int .i64 x153004_6, .bool false, .bool false, .string ⟨#[]⟩]) ?_ 6 _ rfl; (with_reducible repeat (first | refine blk_drewN ?_ _ | refine blk_drew ?_ | refine blk_alloc ?_ _)); exact BK152.out⟩, ⟨by repeat (first | (with_reducible first | exact HB.out | apply below_alloc | apply pw_below_drewN | apply below_drew1 | refine below_set ?_ GE151.out | refine below_set ?_ GE152.out) | exact HB.out)⟩⟩
                           ·rw [if_neg c93] at H
                            exact absurd H (by simp)
                      ·rw [if_neg c80] at H
                       have c80b0 : (x6_6 == 0) = false := beq_eq_false_iff_ne.mpr c80
                       have c80b1 : (x6_6 != 0) = true := bne_iff_ne.mpr c80
                       by_cases c96 : x153004_6 > 65535
                       ·rw [if_pos c96] at H
                        have c96b0 : decide (65535 < x153004_6) = true := decide_eq_true c96
                        clear c96
                        simp only [Option.some.injEq, Prod.mk.injEq] at H
                        obtain ⟨rfl, rfl, rfl, rfl, rfl, rfl, rfl, rfl, rfl⟩ := H
                        have hnb97 := NB152_151.out
                        have hnc97 := NB151_152.out
                        obtain ⟨hcz98_0, hcz98_1, hcz98_2, hcz98_3, hcz98_4, hcz98_5, hcz98_6, hcz98_7, hfz98_0, hfz98_1, hfz98_2, hfz98_3, hfz98_4, hfz98_5, hfz98_6, hfz98_7⟩ := cells8 BK152.out
                        obtain ⟨hcz99_0, hcz99_1, hcz99_2, hcz99_3, hcz99_4, hcz99_5, hcz99_6, hcz99_7, hfz99_0, hfz99_1, hfz99_2, hfz99_3, hfz99_4, hfz99_5, hfz99_6, hfz99_7⟩ := cells8 BK151.out
                        go_upto_region 33 with (fail)
                        refine hcopy (blk_put BK152.out 5 _ rfl) (blk_far BK151.out NB151_152.out _) NB151_152.out (below_set HB.out GE152.out) GE151.out rfl rfl (show 4 < 120 by decide) (show 120 < 164 by decide) ?_
                        intro a' w' hd hres hb
                        try dsimp only [Exit.then, Exit.inBlock]
                        refine (by assumption : ∀ (a : Act) (w : World), Code.wp _ Code.ret _ a w → _) _ _ ?_
                        refine hwp_ret ?_
                        try dsimp only [Exit.then, Exit.inBlock]
                        exact bodyPost_ret hres hd ⟨rfl, hb⟩
                       ·rw [if_neg c96] at H
                        have c96b0 : decide (65535 < x153004_6) = false := decide_eq_false c96
                        clear c96
                        by_cases c100 : 0 ≤ x6_6
                        ·rw [if_pos c100] at H
                         have c100b0 := eq_true c100
                         have c100b1 : decide (0 ≤ x6_6) = true := decide_eq_true c100
                         clear c100
                         by_cases c101 : x6_6 ≤ (((x0_27.extract (x5_27 : Int).toNat x0_27.size).extract 1 (x0_27.extract (x5_27 : Int).toNat x0_27.size).size).size : Int)
                         ·rw [if_pos c101] at H
                          have c101b0 := eq_true c101
                          have c101b1 : decide (x6_6 ≤ (((x0_27.extract (x5_27 : Int).toNat x0_27.size).extract 1 (x0_27.extract (x5_27 : Int).toNat x0_27.size).size).size : Int)) = true := decide_eq_true c101
                          clear c101
                          have H' := Aside0.mk H
                          clear H
                          have hnb102 := NB152_151.out
                          have hnc102 := NB151_152.out
                          obtain ⟨hcz103_0, hcz103_1, hcz103_2, hcz103_3, hcz103_4, hcz103_5, hcz103_6, hcz103_7, hfz103_0, hfz103_1, hfz103_2, hfz103_3, hfz103_4, hfz103_5, hfz103_6, hfz103_7⟩ := cells8 BK152.out
                          go_wp2
                          go_meet
                          case rel => exact ⟨_, (((x0_27.extract (x5_27 : Int).toNat x0_27.size).extract 1 (x0_27.extract (x5_27 : Int).toNat x0_27.size).size).extract (x6_6 : Int).toNat ((x0_27.extract (x5_27 : Int).toNat x0_27.size).extract 1 (x0_27.extract (x5_27 : Int).toNat x0_27.size).size).size), (x152000_6), (x152001_6), (x152002_6), (x152003_6), (x152004_6), (x152005_6), (x152006_6), (x152007_6), (x153004_6), (true), (false), (by first | rfl | (simp; done) | (simp [*]; done)), H', ⟨by have := HJ2.out; have := HJ12.out; have := HJ23.out; have := HJ27.out; have := HJ52.out; have := HK6.out; have := HJ62.out; first | omega | exact Nat.le_refl _⟩, ⟨by (with_reducible repeat (first | refine blk_drewN ?_ _ | refine blk_drew ?_ | refine blk_alloc ?_ _)); refine blk_far ?_ NB151_152.out _; (with_reducible repeat (first | refine blk_drewN ?_ _ | refine blk_drew ?_ | refine blk_alloc ?_ _)); exact BK151.out⟩, ⟨by (with_reducible repeat (first | refine blk_drewN ?_ _ | refine blk_drew ?_ | refine blk_alloc ?_ _)); refine blk_put (cs := #[.int .u8 5, .string t157, .string x153002_12, .bool x153003_27, .int .i64 x153004_6, .bool false, .bool false, .string ⟨#[]⟩]) ?_ 5 _ rfl; (with_reducible repeat (first | refine blk_drewN ?_ _ | refine blk_drew ?_ | refine blk_alloc ?_ _)); exact BK152.out⟩, ⟨by repeat (first | (with_reducible first | exact HB.out | apply below_alloc | apply pw_below_drewN | apply below_drew1 | refine below_set ?_ GE151.out | refine below_set ?_ GE152.out) | exact HB.out)⟩⟩
                         ·rw [if_neg c101] at H
                          exact absurd H (by simp)
                        ·rw [if_neg c100] at H
                         exact absurd H (by simp)
                ·rw [if_neg c62] at H
                 exact absurd H (by simp)
               ·replace c61 := Bool.eq_false_iff.mpr c61
                subst c61
                have H1 : (bastionref14_hosted.j8 kj52 (x0_27.extract (x5_27 : Int).toNat x0_27.size) 5 t157 x153002_12 x153003_27 0 false false (⟨#[]⟩ : ByteArray)) = some (r1, r2, r3, r4, r5, r6, r7, r8, r9) := by rw [if_neg (show ¬ (false = true) by decide)] at H; exact H
                clear H
                have H := H1
                clear H1
                have H' := Aside0.mk H
                clear H
                go_wp2
                go_meet
                case rel => exact ⟨_, ((x0_27.extract (x5_27 : Int).toNat x0_27.size)), (0), ((⟨#[]⟩ : ByteArray)), ((⟨#[]⟩ : ByteArray)), (false), (0), (false), (false), ((⟨#[]⟩ : ByteArray)), (0), (false), (false), (by first | rfl | (simp; done) | (simp [*]; done)), H', ⟨by have := HJ2.out; have := HJ12.out; have := HJ23.out; have := HJ27.out; have := HJ52.out; first | omega | exact Nat.le_refl _⟩, ⟨by (with_reducible repeat (first | refine blk_drewN ?_ _ | refine blk_drew ?_ | refine blk_alloc ?_ _)); exact BK151.out⟩, ⟨by (with_reducible repeat (first | refine blk_drewN ?_ _ | refine blk_drew ?_ | refine blk_alloc ?_ _)); exact BK152.out⟩, ⟨by repeat (first | (with_reducible first | exact HB.out | apply below_alloc | apply pw_below_drewN | apply below_drew1 | refine below_set ?_ GE151.out | refine below_set ?_ GE152.out) | exact HB.out)⟩⟩
              case rest => as_aux_lemma =>
               clear HC60
               obtain ⟨kq, x0_59, x152000_59, x152001_59, x152002_59, x152003_59, x152004_59, x152005_59, x152006_59, x152007_59, x153004_59, x153005_59, x153006_59, rfl, HA, HJ59, BK151, BK152, HB⟩ := hcut
               cases kq with
               | zero => exact absurd HA.out (by simp [bastionref14_hosted.j8])
               | succ kj59 =>
                have H := HA.out
                clear HA
                simp only [bastionref14_hosted.j8] at H
                have HC104 := Aside0.mk H
                clear H
                go_upto_region 35 with (fail)
                go_cut [130] (fun v130 wc => ∃ (kq : Nat) (x130_103 : Bool), v130 = .bool x130_103 ∧ Aside0 (bastionref14_hosted.j9 kq x0_59 x130_103 5 t157 x153002_12 x153003_27 x153004_59 x153005_59 x153006_59 (⟨#[]⟩ : ByteArray) = some (r1, r2, r3, r4, r5, r6, r7, r8, r9)) ∧ Aside0 (kq ≤ kj59) ∧ Aside0 (wc.heap[gb151]? = some (.cells #[.int .u8 x152000_59, .string x152001_59, .string x152002_59, .bool x152003_59, .int .i64 x152004_59, .bool x152005_59, .bool x152006_59, .string x152007_59] 40 (0, 0))) ∧ Aside0 (wc.heap[gb152]? = some (.cells #[.int .u8 5, .string t157, .string x153002_12, .bool x153003_27, .int .i64 x153004_59, .bool x153005_59, .bool x153006_59, .string ⟨#[]⟩] 40 (0, 0))) ∧ Aside0 (Below w.heap.size w wc))
                case first =>
                 have H := HC104.out
                 clear HC104
                 by_cases c105 : x0_59.toList = ([] : List UInt8)
                 ·rw [if_pos c105] at H
                  have c105b0 : (x0_59.toList == ([] : List UInt8)) = true := beq_iff_eq.mpr c105
                  have c105b1 : (x0_59.toList != ([] : List UInt8)) = false := bne_eq_false_iff_eq.mpr c105
                  clear c105
                  (first | rw [c105b0] | (simp only [i64_w, i32_w]; rw [c105b0]) | skip)
                  have H' := Aside0.mk H
                  clear H
                  go_wp2
                  go_meet
                  case rel => exact ⟨_, (false), (by first | rfl | (simp; done) | (simp [*]; done)), H', ⟨by have := HJ2.out; have := HJ12.out; have := HJ23.out; have := HJ27.out; have := HJ52.out; have := HJ59.out; first | omega | exact Nat.le_refl _⟩, ⟨by (with_reducible repeat (first | refine blk_drewN ?_ _ | refine blk_drew ?_ | refine blk_alloc ?_ _)); exact BK151.out⟩, ⟨by (with_reducible repeat (first | refine blk_drewN ?_ _ | refine blk_drew ?_ | refine blk_alloc ?_ _)); exact BK152.out⟩, ⟨by repeat (first | (with_reducible first | exact HB.out | apply below_alloc | apply pw_below_drewN | apply below_drew1 | refine below_set ?_ GE151.out | refine below_set ?_ GE152.out) | exact HB.out)⟩⟩
                 ·rw [if_neg c105] at H
                  have c105b0 : (x0_59.toList == ([] : List UInt8)) = false := beq_eq_false_iff_ne.mpr c105
                  have c105b1 : (x0_59.toList != ([] : List UInt8)) = true := bne_iff_ne.mpr c105
                  (first | rw [c105b0] | (simp only [i64_w, i32_w]; rw [c105b0]) | skip)
                  by_cases c106 : 0 < (x0_59.size : Int)
                  ·rw [if_pos c106] at H
                   have c106b0 : decide (0 < (x0_59.size : Int)) = true := decide_eq_true c106
                   have c106b1 : decide (0 < x0_59.size) = true := decide_eq_true (by omega)
                   clear c106
                   have H' := Aside0.mk H
                   clear H
                   have p107 : 0 ≤ (0 : Int) := (by omega)
                   have q107 : 0 < x0_59.size := (by have : (0 : Int) < (x0_59.size : Int) := of_decide_eq_true (by first | (with_reducible assumption) | assumption); omega)
                   have hx107 := bt_at0 x0_59
                   clear p107
                   have qi107 : (0 < (x0_59.size : Int)) = True := eq_true (of_decide_eq_true (by first | (with_reducible assumption) | assumption))
                   replace q107 := eq_true q107
                   go_wp2
                   go_meet
                   case rel => exact ⟨_, (((bt x0_59 0) != 47)), (by first | rfl | (simp; done) | (simp [*]; done)), H', ⟨by have := HJ2.out; have := HJ12.out; have := HJ23.out; have := HJ27.out; have := HJ52.out; have := HJ59.out; first | omega | exact Nat.le_refl _⟩, ⟨by (with_reducible repeat (first | refine blk_drewN ?_ _ | refine blk_drew ?_ | refine blk_alloc ?_ _)); exact BK151.out⟩, ⟨by (with_reducible repeat (first | refine blk_drewN ?_ _ | refine blk_drew ?_ | refine blk_alloc ?_ _)); exact BK152.out⟩, ⟨by repeat (first | (with_reducible first | exact HB.out | apply below_alloc | apply pw_below_drewN | apply below_drew1 | refine below_set ?_ GE151.out | refine below_set ?_ GE152.out) | exact HB.out)⟩⟩
                  ·rw [if_neg c106] at H
                   exact absurd H (by simp)
                case rest => as_aux_lemma =>
                 clear HC104
                 obtain ⟨kq, x130_103, rfl, HA, HJ103, BK151, BK152, HB⟩ := hcut
                 cases kq with
                 | zero => exact absurd HA.out (by simp [bastionref14_hosted.j9])
                 | succ kj103 =>
                  have H := HA.out
                  clear HA
                  simp only [bastionref14_hosted.j9] at H
                  by_cases c108 : x130_103 = true
                  ·subst c108
                   have H1 : (some (5, t157, x153002_12, x153003_27, x153004_59, x153005_59, x153006_59, (⟨#[]⟩ : ByteArray), false)) = some (r1, r2, r3, r4, r5, r6, r7, r8, r9) := by rw [if_pos rfl] at H; exact H
                   clear H
                   have H := H1
                   clear H1
                   simp only [Option.some.injEq, Prod.mk.injEq] at H
                   obtain ⟨rfl, rfl, rfl, rfl, rfl, rfl, rfl, rfl, rfl⟩ := H
                   go_upto_region 36 with (fail)
                   refine hcopy BK152.out BK151.out NB151_152.out HB.out GE151.out rfl rfl (show 4 < 131 by decide) (show 131 < 164 by decide) ?_
                   intro a' w' hd hres hb
                   try dsimp only [Exit.then, Exit.inBlock]
                   refine (by assumption : ∀ (a : Act) (w : World), Code.wp _ Code.ret _ a w → _) _ _ ?_
                   refine hwp_ret ?_
                   try dsimp only [Exit.then, Exit.inBlock]
                   exact bodyPost_ret hres hd ⟨rfl, hb⟩
                  ·replace c108 := Bool.eq_false_iff.mpr c108
                   subst c108
                   have H1 : (bastionref14_hosted.l1 kj103 x0_59 0 5 t157 x153002_12 x153003_27 x153004_59 x153005_59 x153006_59 (⟨#[]⟩ : ByteArray)) = some (r1, r2, r3, r4, r5, r6, r7, r8, r9) := by rw [if_neg (show ¬ (false = true) by decide)] at H; exact H
                   clear H
                   have H := H1
                   clear H1
                   have H' := Aside0.mk H
                   clear H
                   go_wp2
                   go_loopg [7] kj103 (fun kq v7 w' => ∃ (x7_8 : Int) (x152000_8 : Int) (x152001_8 : ByteArray) (x152002_8 : ByteArray) (x152003_8 : Bool) (x152004_8 : Int) (x152005_8 : Bool) (x152006_8 : Bool) (x152007_8 : ByteArray), v7 = .int .i64 x7_8 ∧ Aside0 (bastionref14_hosted.l1 kq x0_59 x7_8 5 t157 x153002_12 x153003_27 x153004_59 x153005_59 x153006_59 (⟨#[]⟩ : ByteArray) = some (r1, r2, r3, r4, r5, r6, r7, r8, r9)) ∧ Aside0 (kq ≤ kj103) ∧ Aside0 (w'.heap[gb151]? = some (.cells #[.int .u8 x152000_8, .string x152001_8, .string x152002_8, .bool x152003_8, .int .i64 x152004_8, .bool x152005_8, .bool x152006_8, .string x152007_8] 40 (0, 0))) ∧ Aside0 (w'.heap[gb152]? = some (.cells #[.int .u8 5, .string t157, .string x153002_12, .bool x153003_27, .int .i64 x153004_59, .bool x153005_59, .bool x153006_59, .string ⟨#[]⟩] 40 (0, 0))) ∧ Aside0 (Below w.heap.size w w'))
                   case atStart => exact ⟨(0), (x152000_59), (x152001_59), (x152002_59), (x152003_59), (x152004_59), (x152005_59), (x152006_59), (x152007_59), (by first | rfl | (simp; done) | (simp [*]; done)), H', ⟨Nat.le_refl _⟩, ⟨by (with_reducible repeat (first | refine blk_drewN ?_ _ | refine blk_drew ?_ | refine blk_alloc ?_ _)); exact BK151.out⟩, ⟨by (with_reducible repeat (first | refine blk_drewN ?_ _ | refine blk_drew ?_ | refine blk_alloc ?_ _)); exact BK152.out⟩, ⟨by repeat (first | (with_reducible first | exact HB.out | apply below_alloc | apply pw_below_drewN | apply below_drew1 | refine below_set ?_ GE151.out | refine below_set ?_ GE152.out) | exact HB.out)⟩⟩
                   case round =>
                    clear H'
                    obtain ⟨x7_8, x152000_8, x152001_8, x152002_8, x152003_8, x152004_8, x152005_8, x152006_8, x152007_8, rfl, HA, HK8, BK151, BK152, HB⟩ := hrel
                    cases gk with
                    | zero => exact absurd HA.out (by simp [bastionref14_hosted.l1])
                    | succ k8 =>
                     have H := HA.out
                     clear HA
                     simp only [bastionref14_hosted.l1] at H
                     by_cases c112 : x7_8 < (x0_59.size : Int)
                     ·rw [if_pos c112] at H
                      have c112b0 : decide (x7_8 < (x0_59.size : Int)) = true := decide_eq_true c112
                      clear c112
                      by_cases c113 : 0 ≤ x7_8
                      ·rw [if_pos c113] at H
                       have c113b0 : decide (0 ≤ x7_8) = true := decide_eq_true c113
                       clear c113
                       by_cases c115 : (bt x0_59 x7_8) = 59
                       ·rw [if_pos c115] at H
                        have c115b0 : ((bt x0_59 x7_8) == 59) = true := beq_iff_eq.mpr c115
                        have c115b1 : ((bt x0_59 x7_8) != 59) = false := bne_eq_false_iff_eq.mpr c115
                        clear c115
                        simp only [Option.some.injEq, Prod.mk.injEq] at H
                        obtain ⟨rfl, rfl, rfl, rfl, rfl, rfl, rfl, rfl, rfl⟩ := H
                        have p114 : 0 ≤ (x7_8 : Int) := of_decide_eq_true (by first | (with_reducible assumption) | assumption)
                        have q114 : x7_8 < (x0_59.size : Int) := of_decide_eq_true (by first | (with_reducible assumption) | assumption)
                        have hx114 := bt_at x0_59 x7_8
                        replace p114 := eq_true p114
                        replace q114 := eq_true q114
                        go_upto_region 41 with (fail)
                        refine hcopy BK152.out BK151.out NB151_152.out HB.out GE151.out rfl rfl (show 4 < 160 by decide) (show 160 < 164 by decide) ?_
                        intro a' w' hd hres hb
                        try dsimp only [Exit.then, Exit.inBlock]
                        refine (by assumption : ∀ (a : Act) (w : World), Code.wp _ Code.ret _ a w → _) _ _ ?_
                        refine hwp_ret ?_
                        try dsimp only [Exit.then, Exit.inBlock]
                        exact bodyPost_ret hres hd ⟨rfl, hb⟩
                       ·rw [if_neg c115] at H
                        have c115b0 : ((bt x0_59 x7_8) == 59) = false := beq_eq_false_iff_ne.mpr c115
                        have c115b1 : ((bt x0_59 x7_8) != 59) = true := bne_iff_ne.mpr c115
                        by_cases c120 : (bt x0_59 x7_8) = 44
                        ·rw [if_pos c120] at H
                         have c120b0 : ((bt x0_59 x7_8) == 44) = true := beq_iff_eq.mpr c120
                         have c120b1 : ((bt x0_59 x7_8) != 44) = false := bne_eq_false_iff_eq.mpr c120
                         clear c120
                         simp only [Option.some.injEq, Prod.mk.injEq] at H
                         obtain ⟨rfl, rfl, rfl, rfl, rfl, rfl, rfl, rfl, rfl⟩ := H
                         have p114 : 0 ≤ (x7_8 : Int) := of_decide_eq_true (by first | (with_reducible assumption) | assumption)
                         have q114 : x7_8 < (x0_59.size : Int) := of_decide_eq_true (by first | (with_reducible assumption) | assumption)
                         have hx114 := bt_at x0_59 x7_8
                         replace p114 := eq_true p114
                         replace q114 := eq_true q114
                         have p119 : 0 ≤ (x7_8 : Int) := of_decide_eq_true (by first | (with_reducible assumption) | assumption)
                         have q119 : x7_8 < (x0_59.size : Int) := of_decide_eq_true (by first | (with_reducible assumption) | assumption)
                         have hx119 := bt_at x0_59 x7_8
                         replace p119 := eq_true p119
                         replace q119 := eq_true q119
                         go_upto_region 41 with (fail)
                         refine hcopy BK152.out BK151.out NB151_152.out HB.out GE151.out rfl rfl (show 4 < 160 by decide) (show 160 < 164 by decide) ?_
                         intro a' w' hd hres hb
                         try dsimp only [Exit.then, Exit.inBlock]
                         refine (by assumption : ∀ (a : Act) (w : World), Code.wp _ Code.ret _ a w → _) _ _ ?_
                         refine hwp_ret ?_
                         try dsimp only [Exit.then, Exit.inBlock]
                         exact bodyPost_ret hres hd ⟨rfl, hb⟩
                        ·rw [if_neg c120] at H
                         have c120b0 : ((bt x0_59 x7_8) == 44) = false := beq_eq_false_iff_ne.mpr c120
                         have c120b1 : ((bt x0_59 x7_8) != 44) = true := bne_iff_ne.mpr c120
                         by_cases c125 : (bt x0_59 x7_8) = 63
                         ·rw [if_pos c125] at H
                          have c125b0 : ((bt x0_59 x7_8) == 63) = true := beq_iff_eq.mpr c125
                          have c125b1 : ((bt x0_59 x7_8) != 63) = false := bne_eq_false_iff_eq.mpr c125
                          clear c125
                          simp only [Option.some.injEq, Prod.mk.injEq] at H
                          obtain ⟨rfl, rfl, rfl, rfl, rfl, rfl, rfl, rfl, rfl⟩ := H
                          have p114 : 0 ≤ (x7_8 : Int) := of_decide_eq_true (by first | (with_reducible assumption) | assumption)
                          have q114 : x7_8 < (x0_59.size : Int) := of_decide_eq_true (by first | (with_reducible assumption) | assumption)
                          have hx114 := bt_at x0_59 x7_8
                          replace p114 := eq_true p114
                          replace q114 := eq_true q114
                          have p119 : 0 ≤ (x7_8 : Int) := of_decide_eq_true (by first | (with_reducible assumption) | assumption)
                          have q119 : x7_8 < (x0_59.size : Int) := of_decide_eq_true (by first | (with_reducible assumption) | assumption)
                          have hx119 := bt_at x0_59 x7_8
                          replace p119 := eq_true p119
                          replace q119 := eq_true q119
                          have p124 : 0 ≤ (x7_8 : Int) := of_decide_eq_true (by first | (with_reducible assumption) | assumption)
                          have q124 : x7_8 < (x0_59.size : Int) := of_decide_eq_true (by first | (with_reducible assumption) | assumption)
                          have hx124 := bt_at x0_59 x7_8
                          replace p124 := eq_true p124
                          replace q124 := eq_true q124
                          go_upto_region 41 with (fail)
                          refine hcopy BK152.out BK151.out NB151_152.out HB.out GE151.out rfl rfl (show 4 < 160 by decide) (show 160 < 164 by decide) ?_
                          intro a' w' hd hres hb
                          try dsimp only [Exit.then, Exit.inBlock]
                          refine (by assumption : ∀ (a : Act) (w : World), Code.wp _ Code.ret _ a w → _) _ _ ?_
                          refine hwp_ret ?_
                          try dsimp only [Exit.then, Exit.inBlock]
                          exact bodyPost_ret hres hd ⟨rfl, hb⟩
                         ·rw [if_neg c125] at H
                          have c125b0 : ((bt x0_59 x7_8) == 63) = false := beq_eq_false_iff_ne.mpr c125
                          have c125b1 : ((bt x0_59 x7_8) != 63) = true := bne_iff_ne.mpr c125
                          by_cases c130 : (bt x0_59 x7_8) = 35
                          ·rw [if_pos c130] at H
                           have c130b0 : ((bt x0_59 x7_8) == 35) = true := beq_iff_eq.mpr c130
                           have c130b1 : ((bt x0_59 x7_8) != 35) = false := bne_eq_false_iff_eq.mpr c130
                           clear c130
                           simp only [Option.some.injEq, Prod.mk.injEq] at H
                           obtain ⟨rfl, rfl, rfl, rfl, rfl, rfl, rfl, rfl, rfl⟩ := H
                           have p114 : 0 ≤ (x7_8 : Int) := of_decide_eq_true (by first | (with_reducible assumption) | assumption)
                           have q114 : x7_8 < (x0_59.size : Int) := of_decide_eq_true (by first | (with_reducible assumption) | assumption)
                           have hx114 := bt_at x0_59 x7_8
                           replace p114 := eq_true p114
                           replace q114 := eq_true q114
                           have p119 : 0 ≤ (x7_8 : Int) := of_decide_eq_true (by first | (with_reducible assumption) | assumption)
                           have q119 : x7_8 < (x0_59.size : Int) := of_decide_eq_true (by first | (with_reducible assumption) | assumption)
                           have hx119 := bt_at x0_59 x7_8
                           replace p119 := eq_true p119
                           replace q119 := eq_true q119
                           have p124 : 0 ≤ (x7_8 : Int) := of_decide_eq_true (by first | (with_reducible assumption) | assumption)
                           have q124 : x7_8 < (x0_59.size : Int) := of_decide_eq_true (by first | (with_reducible assumption) | assumption)
                           have hx124 := bt_at x0_59 x7_8
                           replace p124 := eq_true p124
                           replace q124 := eq_true q124
                           have p129 : 0 ≤ (x7_8 : Int) := of_decide_eq_true (by first | (with_reducible assumption) | assumption)
                           have q129 : x7_8 < (x0_59.size : Int) := of_decide_eq_true (by first | (with_reducible assumption) | assumption)
                           have hx129 := bt_at x0_59 x7_8
                           replace p129 := eq_true p129
                           replace q129 := eq_true q129
                           go_upto_region 41 with (fail)
                           refine hcopy BK152.out BK151.out NB151_152.out HB.out GE151.out rfl rfl (show 4 < 160 by decide) (show 160 < 164 by decide) ?_
                           intro a' w' hd hres hb
                           try dsimp only [Exit.then, Exit.inBlock]
                           refine (by assumption : ∀ (a : Act) (w : World), Code.wp _ Code.ret _ a w → _) _ _ ?_
                           refine hwp_ret ?_
                           try dsimp only [Exit.then, Exit.inBlock]
                           exact bodyPost_ret hres hd ⟨rfl, hb⟩
                          ·rw [if_neg c130] at H
                           have c130b0 : ((bt x0_59 x7_8) == 35) = false := beq_eq_false_iff_ne.mpr c130
                           have c130b1 : ((bt x0_59 x7_8) != 35) = true := bne_iff_ne.mpr c130
                           have H' := Aside0.mk H
                           clear H
                           have p114 : 0 ≤ (x7_8 : Int) := of_decide_eq_true (by first | (with_reducible assumption) | assumption)
                           have q114 : x7_8 < (x0_59.size : Int) := of_decide_eq_true (by first | (with_reducible assumption) | assumption)
                           have hx114 := bt_at x0_59 x7_8
                           replace p114 := eq_true p114
                           replace q114 := eq_true q114
                           have p119 : 0 ≤ (x7_8 : Int) := of_decide_eq_true (by first | (with_reducible assumption) | assumption)
                           have q119 : x7_8 < (x0_59.size : Int) := of_decide_eq_true (by first | (with_reducible assumption) | assumption)
                           have hx119 := bt_at x0_59 x7_8
                           replace p119 := eq_true p119
                           replace q119 := eq_true q119
                           have p124 : 0 ≤ (x7_8 : Int) := of_decide_eq_true (by first | (with_reducible assumption) | assumption)
                           have q124 : x7_8 < (x0_59.size : Int) := of_decide_eq_true (by first | (with_reducible assumption) | assumption)
                           have hx124 := bt_at x0_59 x7_8
                           replace p124 := eq_true p124
                           replace q124 := eq_true q124
                           have p129 : 0 ≤ (x7_8 : Int) := of_decide_eq_true (by first | (with_reducible assumption) | assumption)
                           have q129 : x7_8 < (x0_59.size : Int) := of_decide_eq_true (by first | (with_reducible assumption) | assumption)
                           have hx129 := bt_at x0_59 x7_8
                           replace p129 := eq_true p129
                           replace q129 := eq_true q129
                           go_wp2
                           go_roundg k8
                           case measure => have := HJ2.out; have := HJ12.out; have := HJ23.out; have := HJ27.out; have := HJ52.out; have := HJ59.out; have := HJ103.out; have := HK8.out; omega
                           case rel => exact ⟨(wrap64 (x7_8 + 1)), (x152000_8), (x152001_8), (x152002_8), (x152003_8), (x152004_8), (x152005_8), (x152006_8), (x152007_8), (by first | rfl | (simp; done) | (simp [*]; done)), H', ⟨by have := HJ2.out; have := HJ12.out; have := HJ23.out; have := HJ27.out; have := HJ52.out; have := HJ59.out; have := HJ103.out; have := HK8.out; omega⟩, ⟨by (with_reducible repeat (first | refine blk_drewN ?_ _ | refine blk_drew ?_ | refine blk_alloc ?_ _)); exact BK151.out⟩, ⟨by (with_reducible repeat (first | refine blk_drewN ?_ _ | refine blk_drew ?_ | refine blk_alloc ?_ _)); exact BK152.out⟩, ⟨by repeat (first | (with_reducible first | exact HB.out | apply below_alloc | apply pw_below_drewN | apply below_drew1 | refine below_set ?_ GE151.out | refine below_set ?_ GE152.out) | exact HB.out)⟩⟩
                      ·rw [if_neg c113] at H
                       exact absurd H (by simp)
                     ·rw [if_neg c112] at H
                      have c112b0 : decide (x7_8 < (x0_59.size : Int)) = false := decide_eq_false c112
                      clear c112
                      simp only [Option.some.injEq, Prod.mk.injEq] at H
                      obtain ⟨rfl, rfl, rfl, rfl, rfl, rfl, rfl, rfl, rfl⟩ := H
                      have hnb134 := NB152_151.out
                      have hnc134 := NB151_152.out
                      obtain ⟨hcz135_0, hcz135_1, hcz135_2, hcz135_3, hcz135_4, hcz135_5, hcz135_6, hcz135_7, hfz135_0, hfz135_1, hfz135_2, hfz135_3, hfz135_4, hfz135_5, hfz135_6, hfz135_7⟩ := cells8 BK152.out
                      obtain ⟨hcz136_0, hcz136_1, hcz136_2, hcz136_3, hcz136_4, hcz136_5, hcz136_6, hcz136_7, hfz136_0, hfz136_1, hfz136_2, hfz136_3, hfz136_4, hfz136_5, hfz136_6, hfz136_7⟩ := cells8 BK151.out
                      go_upto_region 43 with (fail)
                      refine hcopy (blk_put BK152.out 7 _ rfl) (blk_far BK151.out NB151_152.out _) NB151_152.out (below_set HB.out GE152.out) GE151.out rfl rfl (show 4 < 163 by decide) (show 163 < 164 by decide) ?_
                      intro a' w' hd hres hb
                      try dsimp only [Exit.then, Exit.inBlock]
                      refine (by assumption : ∀ (a : Act) (w : World), Code.wp _ Code.ret _ a w → _) _ _ ?_
                      refine hwp_ret ?_
                      try dsimp only [Exit.then, Exit.inBlock]
                      exact bodyPost_ret hres hd ⟨rfl, hb⟩
           ·rw [if_neg c49] at H
            exact absurd H (by simp)
          ·rw [if_neg c48] at H
           exact absurd H (by simp)
end Go.Proofs.YtnndgmbflkdhkaaGreatDoor.Q
