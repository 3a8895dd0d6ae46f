/- utf.Encode: what it answers, of every list of runes that fits. -/
/- The order of lists of numbers, and the document's way to put one more into an ordered list, plain. -/
/- strings.Cut, in print's form. -/
import Derived.Test.YtbcbmmlpgdndpaaDoorSB4
import Derived.Shelf.Utf8.AppendRunePlain
import Derived.LoopTactic
import Derived.Lib.Hide
import Derived.Laws.BytesArg
import Derived.Test.YtbcbmmlpgdndpaaDoorSStab
import Derived.Shelf.Strings.Cut
section
namespace Go.Proofs
open Go.Shelf Go.RowKit
def Tryd.lays242_ren : Go.Shelf.Ren := ⟨fun | 242 => 80 | 278 => 95 | n => n, fun | 4 => 4 | 5 => 5 | 21 => 21 | 37 => 45 | 46 => 86 | 51 => 121 | n => n, fun n => n⟩
theorem Tryd.lays242 : Go.Proofs.Lays.n242 Tryd.prog Tryd.lays242_ren := {
  mixed := by kernel_rfl
  f242 := Tryd.func80.trans (congrArg some (by kernel_rfl))
  f278 := Tryd.func95.trans (congrArg some (by kernel_rfl))
  t4 := Tryd.underlying4
  a4 := Tryd.isAgg4
  z4 := Tryd.sizeOf4
  v4 := Tryd.zeroValue4
  t5 := Tryd.underlying5
  a5 := Tryd.isAgg5
  z5 := Tryd.sizeOf5
  v5 := Tryd.zeroValue5
  t21 := Tryd.underlying21
  a21 := Tryd.isAgg21
  z21 := Tryd.sizeOf21
  v21 := Tryd.zeroValue21
  t37 := Tryd.underlying45
  a37 := Tryd.isAgg45
  z37 := Tryd.sizeOf45
  v37 := Tryd.zeroValue45
  t46 := Tryd.underlying86
  a46 := Tryd.isAgg86
  z46 := Tryd.sizeOf86
  v46 := Tryd.zeroValue86
  t51 := Tryd.underlying121
  a51 := Tryd.isAgg121
  z51 := Tryd.sizeOf121
  v51 := Tryd.zeroValue121 }
theorem Tryd.byteInfo : (Tryd.prog.info? 5).map (fun i => (i.zero, i.size, i.bytes)) = some (some (.int .u8 0), 1, 1) := by kernel_rfl
theorem Tryd.appendRune (B : Nat) (v : Value) (n : Nat) (xs : List Value) (r : Int) (hr0 : -2147483648 ≤ r) (hr1 : r ≤ 2147483647) (w : World) (hown : w.ownsRow B 5 1 v n xs) (hlen : n + 4 ≤ 140737488355328) (hBw : B ≤ w.heap.size) :
    Calls Tryd.prog 80 #[v, .int .i32 r] w fun e w' => ∃ v', e = .returned v' ∧ w'.ownsRow B 5 1 v' (n + (Lib.runeCells r).length) (xs ++ Lib.runeCells r) ∧ Below B w w' ∧ w.heap.size ≤ w'.heap.size :=
  (Any.utf8_AppendRune_plain Tryd.lays242 Tryd.byteInfo B v n xs r hr0 hr1 w hown hlen hBw).mono fun _ _ ⟨v', a, b, o, c⟩ => ⟨v', a, b, ((Below.refl B w).alloc hBw o).grown c (by simp; omega) (fun k hk => (hown.lt k hk).1), by have := c.size; simp at this; omega⟩
end Go.Proofs
namespace Go.Proofs.YtbcbmmlpgdndpaaDoor.Q
open Go.RowKit Go.Proofs.YtbcbmmlpgdndpaaDoorW.PrintWords Go.Proofs.YtbcbmmlpgdndpaaDoorW.PrintLast Go.Proofs.YtbcbmmlpgdndpaaDoorW.PrintMore
set_option linter.unusedVariables false
def inR32 (x : Int) : Prop := -2147483648 ≤ x ∧ x ≤ 2147483647
instance (x : Int) : Decidable (inR32 x) := inferInstanceAs (Decidable (_ ∧ _))
def encRunes (l : List Int) : List UInt8 := l.flatMap Lib.encodeRune
def utf_Encode.f (l0 : List Int) : Option ByteArray := if l0.length ≤ 17592186044416 ∧ ∀ x ∈ l0, inR32 x then some ⟨(encRunes l0).toArray⟩ else none
theorem runeCells_bytes (r : Int) : Lib.runeCells r = Lib.byteCells (Lib.encodeRune r) := (Lib.byteCells_encodeRune r).symm
theorem encRunes_take (l : List Int) (k : Nat) (h : k < l.length) : encRunes (l.take (k + 1)) = encRunes (l.take k) ++ Lib.encodeRune (l.getD k 0) := by
  have e : l.getD k 0 = l[k] := by simp [List.getD, h]
  rw [List.take_succ_eq_append_getElem h, e]
  unfold encRunes
  rw [List.flatMap_append]
  congr 1
  simp
theorem encodeRune_len (r : Int) : 1 ≤ (Lib.encodeRune r).length ∧ (Lib.encodeRune r).length ≤ 4 := by
  have := Lib.runeCells_le r
  rw [Lib.runeCells_length] at this
  exact this
theorem encRunes_len (l : List Int) : (encRunes l).length ≤ 4 * l.length := by
  induction l with
  | nil => simp [encRunes]
  | cons r l ih =>
    have h : encRunes (r :: l) = Lib.encodeRune r ++ encRunes l := by simp [encRunes]
    have := encodeRune_len r
    rw [h, List.length_append, List.length_cons]; omega
theorem own_bytes_string {P : Program} {w : World} {base n : Nat} {src dst e : TypeId} {v : Value} {l : List UInt8} (hs : P.underlying src = some (.slice e)) (he : P.underlying e = some (.int .u8)) (hd : P.underlying dst = some .string)
    (h : w.ownsRow base e 1 v n (Lib.byteCells l)) : (convert src dst v).run P w = .ok (.string ⟨l.toArray⟩) w := by
  have e1 : Lib.byteCells l = nums .u8 (l.map fun c => (c.toNat : Int)) := by simp [Lib.byteCells, nums]
  rw [e1] at h
  have := own_string (P := P) (dst := dst) hs he hd h
  rw [this]
  have e2 : strOfNums (l.map fun c => (c.toNat : Int)) = ⟨l.toArray⟩ := by
    unfold strOfNums
    rw [List.map_map]
    congr 2
    conv => rhs; rw [← List.map_id l]
    apply List.map_congr_left
    intro c _
    simp
  rw [e2]
set_option maxHeartbeats 1000000 in
set_option maxRecDepth 100000 in
theorem uenc_any (A : Option Addr) (c : Nat) (l : List Int) (w : World) (hr : Kd.C (Kd.int .i32) w A l.length l) (hl : l.length ≤ 17592186044416) (hx : ∀ x ∈ l, inR32 x) :
    Calls Tryd.prog 64 #[.slice A l.length c] w fun e w' => e = .returned (.string ⟨(encRunes l).toArray⟩) ∧ Below w.heap.size w w' := by
  have HR := Lib.hid hr
  have HX := Lib.hid hx
  clear hr hx
  go_enter Tryd.func64, Tryd.ntmps64
  go_wp2
  go_loopw [3, 8] (fun v i wr => ∃ k : Nat, k ≤ l.length ∧ i = .int .i64 k ∧ wr.ownsRow w.heap.size 5 1 v (encRunes (l.take k)).length (Lib.byteCells (encRunes (l.take k))) ∧ Below w.heap.size w wr) (fun _ i _ => l.length - (intOf i).toNat)
  case atStart => exact ⟨0, Nat.zero_le _, rfl, World.ownsRow_nil _ _ _ _, Below.refl _ _⟩
  case round =>
    obtain ⟨k, hk, rfl, hO, hbel⟩ := hrel
    have HO := Lib.hid hO
    have HB := Lib.hid hbel
    have hsz := hbel.size
    clear hO hbel
    by_cases hlt : k < l.length
    · obtain ⟨ad, rfl, hc⟩ := Kd.at_int HR.out (k : Int) (by omega) (by omega)
      have hlt' : decide (k < l.length) = true := decide_eq_true hlt
      have hcell : wr.cell? (ad.add k) = some (.int .i32 (rd l k)) := pw_cell_below HB.out (by simpa using hc)
      clear hc
      have HN := Lib.hid (encRunes_take l k hlt)
      have hlen := encRunes_len (l.take k)
      have htk : (l.take k).length ≤ k := List.length_take_le _ _
      have hin := HX.out (rd l k) (by unfold rd; simp [List.getD, hlt])
      have hr0 := hin.1
      have hr1 := hin.2
      clear hin
      go_wp2_with (go_at_call 80; refine (Tryd.appendRune w.heap.size _ _ _ _ hr0 hr1 _ HO.out (by omega) (by omega)).mono ?_; rintro e w1 ⟨v', rfl, hO1, hb1, hs1⟩)
      have hO2 : w1.ownsRow w.heap.size 5 1 v' (encRunes (l.take (k + 1))).length (Lib.byteCells (encRunes (l.take (k + 1)))) := by
        rw [HN.out, List.length_append]
        have e1 : (Lib.runeCells (rd l k)).length = (Lib.encodeRune (l.getD k 0)).length := by rw [Lib.runeCells_length]; rfl
        have e2 : Lib.byteCells (encRunes (l.take k) ++ Lib.encodeRune (l.getD k 0)) = Lib.byteCells (encRunes (l.take k)) ++ Lib.runeCells (rd l k) := by
          rw [runeCells_bytes]; simp [Lib.byteCells]; rfl
        rw [e2, ← e1]; exact hO1
      go_roundw
      case rel => exact ⟨k + 1, by omega, by go_num, hO2, HB.out.trans hb1⟩
      case measure => simp [intOf] <;> omega
    · have hge : decide (k < l.length) = false := decide_eq_false hlt
      have hk' : k = l.length := by omega
      have HF := Lib.hid (show l.take k = l by rw [hk', List.take_length])
      clear hk'
      have hO := HO.out
      rw [HF.out] at hO
      have hcv := own_bytes_string (P := Tryd.prog) (src := 45) (dst := 9) Tryd.underlying45 Tryd.underlying5 Tryd.underlying9 hO
      clear hO
      go_wp2
      go_ret
      exact ⟨rfl, HB.out⟩
theorem utf_Encode.calls (A0 : Option Addr) (c0 : Nat) (l0 : List Int) (r : ByteArray) (w : World) (hr0 : Kd.C (Kd.int .i32) w A0 l0.length l0) (hc0 : l0.length ≤ c0) (h : utf_Encode.f l0 = some r) :
    Calls Tryd.prog 64 #[.slice A0 l0.length c0] w fun e w' => e = .returned (.string r) ∧ Below w.heap.size w w' := by
  unfold utf_Encode.f at h
  split at h
  · rename_i hh
    obtain rfl := Option.some.inj h
    exact uenc_any A0 c0 l0 w hr0 hh.1 hh.2
  · cases h
end Go.Proofs.YtbcbmmlpgdndpaaDoor.Q
end
section
set_option linter.unusedSimpArgs false
set_option linter.unusedVariables false
namespace Go.Proofs.YtbcbmmlpgdndpaaDoor.St
/-- the first number that differs tells; else the shorter one is ahead -/
def lexLt : List Int → List Int → Bool
  | _, [] => false
  | [], _ :: _ => true
  | x :: s, y :: t => if x = y then lexLt s t else decide (x < y)
theorem lex_asymm : ∀ a b : List Int, lexLt a b = true → lexLt b a = false
  | a, [], h => by cases a <;> simp [lexLt] at h
  | [], y :: t, h => rfl
  | x :: s, y :: t, h => by
    unfold lexLt at h ⊢
    by_cases e : x = y
    · rw [if_pos e] at h
      rw [if_pos e.symm]
      exact lex_asymm s t h
    · rw [if_neg e] at h
      rw [if_neg (fun e' => e e'.symm)]
      have := of_decide_eq_true h
      exact decide_eq_false (by omega)
theorem lex_neg : ∀ a b c : List Int, lexLt a c = true → lexLt a b = true ∨ lexLt b c = true
  | a, b, [], h => by cases a <;> simp [lexLt] at h
  | [], [], z :: t, h => .inr rfl
  | [], y :: s, z :: t, h => .inl rfl
  | x :: r, [], z :: t, h => .inr rfl
  | x :: r, y :: s, z :: t, h => by
    unfold lexLt at h ⊢
    by_cases e1 : x = y
    · rw [if_pos e1]
      subst e1
      by_cases e2 : x = z
      · rw [if_pos e2] at h ⊢
        exact lex_neg r s t h
      · rw [if_neg e2] at h ⊢
        exact .inr h
    · rw [if_neg e1]
      by_cases h2 : x < y
      · exact .inl (decide_eq_true h2)
      · right
        by_cases e3 : x = z
        · rw [if_neg (by omega)]
          exact decide_eq_true (by omega)
        · rw [if_neg e3] at h
          have := of_decide_eq_true h
          rw [if_neg (by omega)]
          exact decide_eq_true (by omega)
section
variable {α : Type} (key : α → List Int)
theorem lex_tot (x y : α) (h : leq (fun a b => lexLt (key a) (key b)) x y = false) : leq (fun a b => lexLt (key a) (key b)) y x = true := by
  unfold leq at h ⊢
  have : lexLt (key y) (key x) = true := by simpa using h
  show (!lexLt (key x) (key y)) = true
  rw [lex_asymm _ _ this]
  rfl
theorem lex_tr (x y z : α) (h1 : leq (fun a b => lexLt (key a) (key b)) x y = true) (h2 : leq (fun a b => lexLt (key a) (key b)) y z = true) : leq (fun a b => lexLt (key a) (key b)) x z = true := by
  unfold leq at h1 h2 ⊢
  have a1 : lexLt (key y) (key x) = false := by simpa using h1
  have a2 : lexLt (key z) (key y) = false := by simpa using h2
  show (!lexLt (key z) (key x)) = true
  cases h : lexLt (key z) (key x) with
  | false => rfl
  | true =>
    rcases lex_neg _ (key y) _ h with h | h
    · rw [a2] at h; cases h
    · rw [a1] at h; cases h
end
section
variable {α : Type} [Inhabited α] {lt : α → α → Bool}
end
end Go.Proofs.YtbcbmmlpgdndpaaDoor.St
end
section
set_option linter.unusedSimpArgs false
set_option linter.unusedVariables false
namespace Go.Proofs
open Go.Shelf
def Tryd.lays145_ren : Go.Shelf.Ren := ⟨fun | 145 => 31 | 217 => 87 | 219 => 72 | 220 => 52 | 224 => 89 | 225 => 88 | 266 => 100 | 267 => 90 | 314 => 101 | n => n, fun | 3 => 3 | 4 => 4 | 5 => 5 | 9 => 9 | 46 => 86 | 51 => 121 | 59 => 59 | 146 => 122 | n => n, fun | 1 => 2 | n => n⟩
theorem Tryd.lays145 : Go.Proofs.Lays.n145 Tryd.prog Tryd.lays145_ren := {
  mixed := by kernel_rfl
  f145 := Tryd.func31.trans (congrArg some (by kernel_rfl))
  f217 := Tryd.func87.trans (congrArg some (by kernel_rfl))
  f219 := Tryd.func72.trans (congrArg some (by kernel_rfl))
  f220 := Tryd.func52.trans (congrArg some (by kernel_rfl))
  f224 := Tryd.func89.trans (congrArg some (by kernel_rfl))
  f225 := Tryd.func88.trans (congrArg some (by kernel_rfl))
  f266 := Tryd.func100.trans (congrArg some (by kernel_rfl))
  f267 := Tryd.func90.trans (congrArg some (by kernel_rfl))
  f314 := Tryd.func101.trans (congrArg some (by kernel_rfl))
  t3 := Tryd.underlying3
  a3 := Tryd.isAgg3
  z3 := Tryd.sizeOf3
  v3 := Tryd.zeroValue3
  t4 := Tryd.underlying4
  a4 := Tryd.isAgg4
  z4 := Tryd.sizeOf4
  v4 := Tryd.zeroValue4
  t5 := Tryd.underlying5
  a5 := Tryd.isAgg5
  z5 := Tryd.sizeOf5
  v5 := Tryd.zeroValue5
  t9 := Tryd.underlying9
  a9 := Tryd.isAgg9
  z9 := Tryd.sizeOf9
  v9 := Tryd.zeroValue9
  t46 := Tryd.underlying86
  a46 := Tryd.isAgg86
  z46 := Tryd.sizeOf86
  v46 := Tryd.zeroValue86
  t51 := Tryd.underlying121
  a51 := Tryd.isAgg121
  z51 := Tryd.sizeOf121
  v51 := Tryd.zeroValue121
  t59 := Tryd.underlying59
  a59 := Tryd.isAgg59
  z59 := Tryd.sizeOf59
  v59 := Tryd.zeroValue59
  t146 := Tryd.underlying122
  a146 := Tryd.isAgg122
  z146 := Tryd.sizeOf122
  v146 := Tryd.zeroValue122
  g1 := by kernel_rfl }
end Go.Proofs
namespace Go.Proofs.YtbcbmmlpgdndpaaDoor.Q
open Go.RowKit Go.Proofs.YtbcbmmlpgdndpaaDoorW.PrintWords Go.Proofs.YtbcbmmlpgdndpaaDoorW.PrintLast Go.Proofs.YtbcbmmlpgdndpaaDoorW.PrintMore
def strings_Cut.f (a0 a1 : ByteArray) : Option (ByteArray × ByteArray × Bool) :=
  if a0.size < 4294967281 then some (⟨(Lib.cut a0.data.toList a1.data.toList).1.toArray⟩, ⟨(Lib.cut a0.data.toList a1.data.toList).2.1.toArray⟩, (Lib.cut a0.data.toList a1.data.toList).2.2) else none
theorem strings_Cut.calls (a0 a1 : ByteArray) (r1 r2 : ByteArray) (r3 : Bool) (w : World) (hT : UTabs w) (h : strings_Cut.f a0 a1 = some (r1, r2, r3)) :
    Calls Tryd.prog 31 #[.string a0, .string a1] w fun e w' => e = .returned (.tuple #[.string r1, .string r2, .bool r3]) ∧ Below w.heap.size w w' := by
  unfold strings_Cut.f at h
  split at h
  · rename_i hs
    cases h
    obtain ⟨_, ⟨m, hm⟩, _⟩ := hT
    refine (Any.strings_Cut Tryd.lays145 a0 a1 m w hs hm).mono ?_
    rintro e w' ⟨he, n, rfl⟩
    exact ⟨he, pw_below_drewN (Below.refl _ _) n⟩
  · cases h
end Go.Proofs.YtbcbmmlpgdndpaaDoor.Q
end
