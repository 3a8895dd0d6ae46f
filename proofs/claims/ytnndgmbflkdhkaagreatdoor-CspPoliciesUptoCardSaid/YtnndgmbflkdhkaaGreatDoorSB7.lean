/- csp on lists of bytes: letters, spans, schemes, small letters. -/
/- strings.Join at what print reads: the shelf's law, laid at this program. -/
import Derived.Test.YtnndgmbflkdhkaaGreatDoorSPort
import Derived.Test.YtnndgmbflkdhkaaGreatDoorSB6
import Derived.Test.YtnndgmbflkdhkaaGreatDoorSQcsp1
import Derived.Test.YtnndgmbflkdhkaaGreatDoorSB5
import Derived.Lib.IndexAny
import Derived.Shelf.Strings.BuilderX
import Derived.Shelf.Strings.OnBuilder
import Derived.Test.YtnndgmbflkdhkaaGreatDoorSB4
section
set_option linter.unusedSimpArgs false
set_option linter.unusedVariables false
namespace Go.Proofs.YtnndgmbflkdhkaaGreatDoor.Q
open Go.RowKit Go.Proofs.YtnndgmbflkdhkaaGreatDoorW.PrintWords Go.Proofs.YtnndgmbflkdhkaaGreatDoorW.PrintLast Go.Proofs.YtnndgmbflkdhkaaGreatDoorW.PrintMore Go.Proofs.YtnndgmbflkdhkaaGreatDoor.P1
def isAl (c : UInt8) : Bool := (decide (97 ≤ c.toNat) && decide (c.toNat ≤ 122)) || (decide (65 ≤ c.toNat) && decide (c.toNat ≤ 90))
theorem letter_f (c : UInt8) : csp_letter.f (c.toNat : Int) = some (isAl c) := by
  have h : ∀ b : Fin 256, csp_letter.f (b.val : Int) = some (isAl b.val.toUInt8) := by decide +kernel
  have := h ⟨c.toNat, c.toNat_lt⟩
  simpa using this
def inSpan (more : List UInt8) (c : UInt8) : Bool := isAl c || dig c || more.contains c
def spanN (more l : List UInt8) : Nat := (l.takeWhile (inSpan more)).length
theorem spanN_le (more l : List UInt8) : spanN more l ≤ l.length := (List.takeWhile_prefix _).length_le
theorem spanN_cons (more : List UInt8) (c : UInt8) (l : List UInt8) : spanN more (c :: l) = if inSpan more c then spanN more l + 1 else 0 := by
  unfold spanN
  rw [List.takeWhile_cons]
  cases inSpan more c <;> simp
theorem idx_f (more : List UInt8) (c : UInt8) : strings_IndexByte.f (B more) (c.toNat : Int) = some (Lib.indexByte more c) := by
  unfold strings_IndexByte.f
  rw [B_data]; simp
theorem span_l0 (more l : List UInt8) (hl : l.length ≤ 140737488355328) : ∀ (d k i : Nat), l.length - i = d → d < k → i ≤ l.length →
    csp_span.l0 k (B l) (B more) (i : Int) = some (((i + spanN more (l.drop i) : Nat)) : Int) := by
  intro d
  induction d with
  | zero =>
    intro k i hd hk hi
    obtain ⟨k, rfl⟩ : ∃ m, k = m + 1 := ⟨k - 1, by omega⟩
    simp only [csp_span.l0]
    rw [if_neg (by rw [B_size]; omega), List.drop_of_length_le (by omega)]
    simp [spanN]
  | succ d ih =>
    intro k i hd hk hi
    obtain ⟨k, rfl⟩ : ∃ m, k = m + 1 := ⟨k - 1, by omega⟩
    have hlt : i < l.length := by omega
    simp only [csp_span.l0]
    rw [if_pos (by rw [B_size]; omega), if_pos (by omega)]
    have hb : bt (B l) (i : Int) = ((l[i]'hlt).toNat : Int) := by rw [B_bt]; simp [List.getD_eq_getElem?_getD, hlt]
    have hw : wrap64 ((i : Int) + 1) = ((i + 1 : Nat) : Int) := by rw [w64 (by omega) (by omega)]; omega
    have hi' := ih k (i + 1) (by omega) (by omega) (by omega)
    rw [hb, letter_f, digit_f, idx_f, hw, hi', List.drop_eq_getElem_cons hlt, spanN_cons]
    have hc := Lib.contains_iff_indexByte more (l[i]'hlt)
    simp only [Option.bind_some, inSpan]
    generalize l[i]'hlt = c at *
    by_cases h1 : isAl c = true
    · simp [h1]; omega
    · by_cases h2 : dig c = true
      · simp [h1, h2]; omega
      · by_cases h3 : 0 ≤ Lib.indexByte more c
        · rw [decide_eq_true h3] at hc
          have hm : c ∈ more := by simpa using hc
          simp [h1, h2, h3, hm]; omega
        · rw [decide_eq_false h3] at hc
          have hm : c ∉ more := by simpa using hc
          simp [h1, h2, h3, hm]
theorem span_f (more l : List UInt8) (hl : l.length ≤ 140737488355328) (k : Nat) (hk : l.length < k) : csp_span.f k (B l) (B more) = some ((spanN more l : Nat) : Int) := by
  have := span_l0 more l hl l.length k 0 (by omega) hk (by omega)
  unfold csp_span.f
  simpa using this
def schN : List UInt8 → Nat
  | [] => 0
  | c :: l => if isAl c then spanN [43, 45, 46] (c :: l) else 0
theorem schN_le (l : List UInt8) : schN l ≤ l.length := by
  cases l with
  | nil => simp [schN]
  | cons c l =>
    show (if isAl c then spanN [43, 45, 46] (c :: l) else 0) ≤ _
    split
    · exact spanN_le _ _
    · omega
theorem scheme_f (l : List UInt8) (hl : l.length ≤ 140737488355328) (k : Nat) (hk : l.length < k) : csp_scheme.f k (B l) = some ((schN l : Nat) : Int) := by
  unfold csp_scheme.f
  cases l with
  | nil => rw [if_pos (B_toList _)]; rfl
  | cons c l =>
    rw [if_neg (by rw [B_toList]; simp), if_pos (by rw [B_size]; simp)]
    have hb : bt (B (c :: l)) 0 = (c.toNat : Int) := by rw [B_bt]; simp
    rw [hb, letter_f]
    simp only [Option.bind_some, schN]
    cases isAl c with
    | true =>
      have := span_f [43, 45, 46] (c :: l) hl k hk
      rw [show (⟨#[43, 45, 46]⟩ : ByteArray) = B [43, 45, 46] from rfl, this]; simp
    | false => simp
def lowC (c : UInt8) : UInt8 := if 65 ≤ c.toNat ∧ c.toNat ≤ 90 then c + 32 else c
def low (l : List UInt8) : List UInt8 := l.map lowC
theorem turn_low (c : UInt8) : turnV 65 90 32 (c.toNat : Int) = ((lowC c).toNat : Int) := by
  have h : ∀ b : Fin 256, turnV 65 90 32 (b.val : Int) = ((lowC b.val.toUInt8).toNat : Int) := by decide +kernel
  have := h ⟨c.toNat, c.toNat_lt⟩
  simpa using this
theorem lower_f (l : List UInt8) (hl : l.length ≤ 281474976710656) : pct_Lower.f (B l) = some (B (low l)) := by
  unfold pct_Lower.f pct_turned.f
  rw [if_pos (by rw [B_size]; omega)]
  simp only [Option.bind_some]
  congr 1
  rw [B_data, ← strOf_ns]
  unfold turnL ns low
  rw [List.map_map]
  congr 1
  apply List.map_congr_left
  intro c _
  exact turn_low c
theorem low_length (l : List UInt8) : (low l).length = l.length := by simp [low]
end Go.Proofs.YtnndgmbflkdhkaaGreatDoor.Q
end
section
set_option linter.unusedSimpArgs false
set_option linter.unusedVariables false
namespace Go.Proofs
open Go.Shelf Go.RowKit
def Tryz.lays156_ren : Go.Shelf.Ren := ⟨fun | 156 => 36 | 165 => 58 | 166 => 59 | 169 => 60 | 240 => 86 | 241 => 87 | 276 => 103 | 277 => 104 | n => n, fun | 0 => 0 | 3 => 3 | 4 => 4 | 5 => 5 | 9 => 9 | 20 => 20 | 31 => 33 | 37 => 84 | 70 => 83 | 72 => 86 | 75 => 89 | 76 => 90 | 80 => 92 | 127 => 112 | 164 => 119 | n => n, fun n => n⟩
theorem Tryz.lays156 : Go.Proofs.Lays.n156 Tryz.prog Tryz.lays156_ren := {
  mixed := by kernel_rfl
  f156 := Tryz.func36.trans (congrArg some (by kernel_rfl))
  f165 := Tryz.func58.trans (congrArg some (by kernel_rfl))
  f166 := Tryz.func59.trans (congrArg some (by kernel_rfl))
  f169 := Tryz.func60.trans (congrArg some (by kernel_rfl))
  f240 := Tryz.func86.trans (congrArg some (by kernel_rfl))
  f241 := Tryz.func87.trans (congrArg some (by kernel_rfl))
  f276 := Tryz.func103.trans (congrArg some (by kernel_rfl))
  f277 := Tryz.func104.trans (congrArg some (by kernel_rfl))
  t0 := Tryz.underlying0
  a0 := Tryz.isAgg0
  z0 := Tryz.sizeOf0
  v0 := Tryz.zeroValue0
  t3 := Tryz.underlying3
  a3 := Tryz.isAgg3
  z3 := Tryz.sizeOf3
  v3 := Tryz.zeroValue3
  t4 := Tryz.underlying4
  a4 := Tryz.isAgg4
  z4 := Tryz.sizeOf4
  v4 := Tryz.zeroValue4
  t9 := Tryz.underlying9
  a9 := Tryz.isAgg9
  z9 := Tryz.sizeOf9
  v9 := Tryz.zeroValue9
  t20 := Tryz.underlying20
  a20 := Tryz.isAgg20
  z20 := Tryz.sizeOf20
  v20 := Tryz.zeroValue20
  t31 := Tryz.underlying33
  a31 := Tryz.isAgg33
  z31 := Tryz.sizeOf33
  v31 := Tryz.zeroValue33
  t37 := Tryz.underlying84
  a37 := Tryz.isAgg84
  z37 := Tryz.sizeOf84
  v37 := Tryz.zeroValue84
  t70 := Tryz.underlying83
  a70 := Tryz.isAgg83
  z70 := Tryz.sizeOf83
  v70 := Tryz.zeroValue83
  t72 := Tryz.underlying86
  a72 := Tryz.isAgg86
  z72 := Tryz.sizeOf86
  v72 := Tryz.zeroValue86
  t75 := Tryz.underlying89
  a75 := Tryz.isAgg89
  z75 := Tryz.sizeOf89
  v75 := Tryz.zeroValue89
  t76 := Tryz.underlying90
  a76 := Tryz.isAgg90
  z76 := Tryz.sizeOf90
  v76 := Tryz.zeroValue90
  t127 := Tryz.underlying112
  a127 := Tryz.isAgg112
  z127 := Tryz.sizeOf112
  v127 := Tryz.zeroValue112
  t164 := Tryz.underlying119
  a164 := Tryz.isAgg119
  z164 := Tryz.sizeOf119
  v164 := Tryz.zeroValue119 }
theorem Tryz.extra156 : Builder.Extra Tryz.prog Tryz.lays156_ren where
  sizeBuilder := by kernel_rfl
  liesBuilder := by kernel_rfl
  t5 := Tryz.underlying5
  a5 := Tryz.isAgg5
  z5 := Tryz.sizeOf5
  v5 := Tryz.zeroValue5
  infoByte := by kernel_rfl
  cellsByte := by kernel_rfl
  sizeByte := by kernel_rfl
  neB5 := by decide
namespace YtnndgmbflkdhkaaGreatDoor.Q
open Go.Proofs.YtnndgmbflkdhkaaGreatDoorW.PrintWords Go.Proofs.YtnndgmbflkdhkaaGreatDoorW.PrintLast Go.Proofs.YtnndgmbflkdhkaaGreatDoorW.PrintMore
def joinB (xs : List ByteArray) (sep : ByteArray) : List UInt8 := Lib.join (xs.map (·.data.toList)) sep.data.toList
def strings_Join.f (l0_0 : List ByteArray) (a0_1 : ByteArray) : Option ByteArray :=
  if l0_0.length ≤ 140737488355328 ∧ (joinB l0_0 a0_1).length ≤ 140737488355328 then some ⟨(joinB l0_0 a0_1).toArray⟩ else none
theorem strings_Join.calls (A0_0 : Option Addr) (c0_0 : Nat) (l0_0 : List ByteArray) (a0_1 : ByteArray) (r : ByteArray) (w : World) (hr0_0 : Kd.C Kd.string w A0_0 l0_0.length l0_0) (hc0_0 : l0_0.length ≤ c0_0) (h : strings_Join.f l0_0 a0_1 = some r) :
    Calls Tryz.prog 36 #[.slice A0_0 l0_0.length c0_0, .string a0_1] w fun e w' => e = .returned (.string r) ∧ Below w.heap.size w w' := by
  unfold strings_Join.f at h
  split at h
  · rename_i hs
    obtain rfl := Option.some.inj h
    cases hl : l0_0 with
    | nil =>
      refine (Any.strings_Join_none Tryz.lays156 Tryz.extra156 A0_0 c0_0 a0_1 w).mono ?_
      rintro e w' ⟨rfl, rfl⟩
      exact ⟨rfl, Below.refl _ _⟩
    | cons x t =>
      rw [← hl]
      have hpos : 0 < l0_0.length := by rw [hl]; exact Nat.succ_pos _
      obtain ⟨ad, cs, hA, hcl, hK, hcc⟩ := Kd.C_get hr0_0 (⟨#[]⟩ : ByteArray) 0 (by omega) (by omega)
      have hcells : ∀ (j : Nat) y, l0_0[j]? = some y → w.cell? (ad.add j) = some (.string y) := by
        intro j y hj
        have hjl : j < l0_0.length := (List.getElem?_eq_some_iff.1 hj).1
        obtain ⟨ad', cs', hA', hcl', hK', hcc'⟩ := Kd.C_get hr0_0 (⟨#[]⟩ : ByteArray) (j : Int) (by omega) (by omega)
        obtain rfl : ad = ad' := Option.some.inj (hA.symm.trans hA')
        rw [Int.toNat_natCast] at hK' hcc'
        have hcs : cs' = [.string (l0_0.getD j ⟨#[]⟩)] := hK'
        subst hcs
        have := hcc' 0 _ rfl
        rw [show j * Kd.string.sz + 0 = j from by show j * 1 + 0 = j; omega, List.getD_eq_getElem?_getD, hj] at this
        exact this
      subst hA
      have h0 := hcells 0 x (by rw [hl]; rfl)
      obtain ⟨b, o, sp⟩ := ad
      have hsp : sp = none := by
        cases sp with
        | none => rfl
        | some q =>
          exfalso
          unfold World.cell? at h0
          split at h0
          · exact absurd h0 (by simp [Addr.add])
          · cases h0
      subst hsp
      have hb : b < w.heap.size := World.block_lt_of_cell? w _ h0
      have hc2 : ∀ (j : Nat) y, l0_0[j]? = some y → w.cell? ⟨b, o + j, none⟩ = some (.string y) := by
        intro j y hj
        have h9 := hcells j y hj
        simp only [Addr.add] at h9
        split at h9
        · rename_i e
          subst e
          exact h9
        · exact h9
      exact Any.strings_Join Tryz.lays156 Tryz.extra156 b o c0_0 l0_0 a0_1 w hc2 hb hs.1 hc0_0 hs.2
  · cases h
end YtnndgmbflkdhkaaGreatDoor.Q
end Go.Proofs
end
