/- A drawn region in a round of a range over a function, for the printed steps. -/
/- What the stable order keeps, plain: an ordered list; those of one key. -/
/- strings.ReplaceAll, in print's form. -/
/- A form's texts, plain: a text by the form's set, its %20 as a plus; what goes in pieces. -/
/- What is written in a form is read as it. -/
/- bastionref11.read: what it answers at every text. -/
/- Functions of the given program as plain Lean functions, each with the proof that the machine answers as it does; laid by a program of mine over the kit print. -/
import Derived.Test.YtbcbmmlpgdndpaaDoorSSeq
import Derived.Test.YtbcbmmlpgdndpaaDoorSB3
import Derived.Shelf.Strings.Replace
import Derived.Shelf.Strings.BuilderX
import Derived.Test.YtbcbmmlpgdndpaaDoorSB9
import Derived.Test.YtbcbmmlpgdndpaaDoorSB6
import Derived.Test.YtbcbmmlpgdndpaaDoorSB12
import Derived.Test.YtbcbmmlpgdndpaaDoorSB7
import Derived.Test.YtbcbmmlpgdndpaaDoorSQbastionref020
import Derived.LoopTactic
import Derived.Lib.Hide
import Derived.Lib.ConvBytes
import Derived.Laws.BytesArg
section
set_option linter.unusedVariables false
namespace Go.Proofs.YtbcbmmlpgdndpaaDoor.R
open Go.RowKit Go.Proofs.YtbcbmmlpgdndpaaDoorW.PrintLast
theorem startR_ {P : Program} {ops : Array Oper} {Q : Exit → Act → World → Prop} {S : World → Prop} {ds : List Nat} {id n m l0 : Nat} {a : Act} {w : World} (l : Array Bool) (hnd : ops.all (fun o => match o.op with | .defer _ => false | _ => true) = true) (hout : LetsOut Q → False)
    (hm : P.follows .mixedOrders = true) (hn : ops.size = n) (hl : Array.replicate n false = l) (hS : S w.drew)
    (h : S w.drew → wpAnyLast P .any ops Q S ds n l a w.drew) : (Code.region id ops true).wpIn (Fence.wide.inRound l0) m P Q a w := by
  subst hn
  subst hl
  exact wpIn_round_any hnd hout hm (fun W' e => by subst e; exact wpAny_of_last _ _ _ _ (h hS))
theorem setCell_blk {W : World} {b j : Nat} {cs : Array Value} {t : TypeId} {fr : Nat × Nat} (v : Value) (h : W.heap[b]? = some (.cells cs t fr)) : (W.setCell ⟨b, j, none⟩ v).heap[b]? = some (.cells (cs.setIfInBounds j v) t fr) := by
  obtain ⟨hlt, hk⟩ := Array.getElem?_eq_some_iff.1 h
  show (W.heap.modify b _)[b]? = _
  rw [Array.getElem?_eq_getElem (by rw [Array.size_modify]; exact hlt), Array.getElem_modify_self, hk]; simp
end Go.Proofs.YtbcbmmlpgdndpaaDoor.R
end
section
set_option linter.unusedSimpArgs false
set_option linter.unusedVariables false
namespace Go.Proofs.YtbcbmmlpgdndpaaDoor.St
section
variable {α : Type} {lt : α → α → Bool}
end
end Go.Proofs.YtbcbmmlpgdndpaaDoor.St
end
section
set_option linter.unusedSimpArgs false
set_option linter.unusedVariables false
namespace Go.Proofs
open Go.Shelf Go.RowKit
def Tryd.lays155_ren : Go.Shelf.Ren := ⟨fun | 138 => 81 | 143 => 71 | 154 => 65 | 155 => 48 | 165 => 82 | 166 => 47 | 169 => 28 | 195 => 96 | 197 => 70 | 217 => 87 | 218 => 97 | 219 => 72 | 224 => 89 | 225 => 88 | 240 => 44 | 241 => 98 | 260 => 86 | 266 => 100 | 267 => 90 | 276 => 61 | 277 => 103 | 314 => 101 | n => n, fun | 0 => 0 | 3 => 3 | 4 => 4 | 5 => 5 | 9 => 9 | 20 => 20 | 21 => 21 | 37 => 45 | 46 => 86 | 51 => 121 | 70 => 44 | 72 => 47 | 75 => 51 | 76 => 76 | 80 => 54 | 105 => 97 | 119 => 82 | 127 => 79 | 138 => 84 | 139 => 85 | 146 => 122 | 164 => 91 | n => n, fun | 1 => 2 | 3 => 0 | 4 => 1 | n => n⟩
theorem Tryd.lays155 : Go.Proofs.Lays.n155 Tryd.prog Tryd.lays155_ren := {
  mixed := by kernel_rfl
  f138 := Tryd.func81.trans (congrArg some (by kernel_rfl))
  f143 := Tryd.func71.trans (congrArg some (by kernel_rfl))
  f154 := Tryd.func65.trans (congrArg some (by kernel_rfl))
  f155 := Tryd.func48.trans (congrArg some (by kernel_rfl))
  f165 := Tryd.func82.trans (congrArg some (by kernel_rfl))
  f166 := Tryd.func47.trans (congrArg some (by kernel_rfl))
  f169 := Tryd.func28.trans (congrArg some (by kernel_rfl))
  f195 := Tryd.func96.trans (congrArg some (by kernel_rfl))
  f197 := Tryd.func70.trans (congrArg some (by kernel_rfl))
  f217 := Tryd.func87.trans (congrArg some (by kernel_rfl))
  f218 := Tryd.func97.trans (congrArg some (by kernel_rfl))
  f219 := Tryd.func72.trans (congrArg some (by kernel_rfl))
  f224 := Tryd.func89.trans (congrArg some (by kernel_rfl))
  f225 := Tryd.func88.trans (congrArg some (by kernel_rfl))
  f240 := Tryd.func44.trans (congrArg some (by kernel_rfl))
  f241 := Tryd.func98.trans (congrArg some (by kernel_rfl))
  f260 := Tryd.func86.trans (congrArg some (by kernel_rfl))
  f266 := Tryd.func100.trans (congrArg some (by kernel_rfl))
  f267 := Tryd.func90.trans (congrArg some (by kernel_rfl))
  f276 := Tryd.func61.trans (congrArg some (by kernel_rfl))
  f277 := Tryd.func103.trans (congrArg some (by kernel_rfl))
  f314 := Tryd.func101.trans (congrArg some (by kernel_rfl))
  t0 := Tryd.underlying0
  a0 := Tryd.isAgg0
  z0 := Tryd.sizeOf0
  v0 := Tryd.zeroValue0
  t3 := Tryd.underlying3
  a3 := Tryd.isAgg3
  z3 := Tryd.sizeOf3
  v3 := Tryd.zeroValue3
  t4 := Tryd.underlying4
  a4 := Tryd.isAgg4
  z4 := Tryd.sizeOf4
  v4 := Tryd.zeroValue4
  t5 := Tryd.underlying5
  a5 := Tryd.isAgg5
  z5 := Tryd.sizeOf5
  v5 := Tryd.zeroValue5
  t9 := Tryd.underlying9
  a9 := Tryd.isAgg9
  z9 := Tryd.sizeOf9
  v9 := Tryd.zeroValue9
  t20 := Tryd.underlying20
  a20 := Tryd.isAgg20
  z20 := Tryd.sizeOf20
  v20 := Tryd.zeroValue20
  t21 := Tryd.underlying21
  a21 := Tryd.isAgg21
  z21 := Tryd.sizeOf21
  v21 := Tryd.zeroValue21
  t37 := Tryd.underlying45
  a37 := Tryd.isAgg45
  z37 := Tryd.sizeOf45
  v37 := Tryd.zeroValue45
  t46 := Tryd.underlying86
  a46 := Tryd.isAgg86
  z46 := Tryd.sizeOf86
  v46 := Tryd.zeroValue86
  t51 := Tryd.underlying121
  a51 := Tryd.isAgg121
  z51 := Tryd.sizeOf121
  v51 := Tryd.zeroValue121
  t70 := Tryd.underlying44
  a70 := Tryd.isAgg44
  z70 := Tryd.sizeOf44
  v70 := Tryd.zeroValue44
  t72 := Tryd.underlying47
  a72 := Tryd.isAgg47
  z72 := Tryd.sizeOf47
  v72 := Tryd.zeroValue47
  t75 := Tryd.underlying51
  a75 := Tryd.isAgg51
  z75 := Tryd.sizeOf51
  v75 := Tryd.zeroValue51
  t76 := Tryd.underlying76
  a76 := Tryd.isAgg76
  z76 := Tryd.sizeOf76
  v76 := Tryd.zeroValue76
  t105 := Tryd.underlying97
  a105 := Tryd.isAgg97
  z105 := Tryd.sizeOf97
  v105 := Tryd.zeroValue97
  t119 := Tryd.underlying82
  a119 := Tryd.isAgg82
  z119 := Tryd.sizeOf82
  t127 := Tryd.underlying79
  a127 := Tryd.isAgg79
  z127 := Tryd.sizeOf79
  v127 := Tryd.zeroValue79
  t138 := Tryd.underlying84
  a138 := Tryd.isAgg84
  z138 := Tryd.sizeOf84
  v138 := Tryd.zeroValue84
  t139 := Tryd.underlying85
  a139 := Tryd.isAgg85
  z139 := Tryd.sizeOf85
  v139 := Tryd.zeroValue85
  t146 := Tryd.underlying122
  a146 := Tryd.isAgg122
  z146 := Tryd.sizeOf122
  v146 := Tryd.zeroValue122
  t164 := Tryd.underlying91
  a164 := Tryd.isAgg91
  z164 := Tryd.sizeOf91
  v164 := Tryd.zeroValue91
  g1 := by kernel_rfl
  g3 := by kernel_rfl
  g4 := by kernel_rfl }
theorem Tryd.extra155 : Builder.Extra Tryd.prog Tryd.lays155_ren where
  sizeBuilder := by kernel_rfl
  liesBuilder := by kernel_rfl
  t5 := Tryd.underlying5
  a5 := Tryd.isAgg5
  z5 := Tryd.sizeOf5
  v5 := Tryd.zeroValue5
  infoByte := by kernel_rfl
  cellsByte := by kernel_rfl
  sizeByte := by kernel_rfl
  neB5 := by decide
end Go.Proofs
namespace Go.Proofs.YtbcbmmlpgdndpaaDoor.Q
open Go.RowKit Go.Proofs.YtbcbmmlpgdndpaaDoorW.PrintWords Go.Proofs.YtbcbmmlpgdndpaaDoorW.PrintLast Go.Proofs.YtbcbmmlpgdndpaaDoorW.PrintMore
def strings_ReplaceAll.f (a0 a1 a2 : ByteArray) : Option ByteArray :=
  if a0.size < 4294967281 ∧ 1 ≤ a1.size ∧ a0.size + Lib.countB a0 a1 * a2.size ≤ 140737488355328 then some ⟨(Lib.replaceAll a0.data.toList a1.data.toList a2.data.toList).toArray⟩ else none
theorem strings_ReplaceAll.calls (a0 a1 a2 : ByteArray) (r : ByteArray) (w : World) (hT : UTabs w) (h : strings_ReplaceAll.f a0 a1 a2 = some r) :
    Calls Tryd.prog 48 #[.string a0, .string a1, .string a2] w fun e w' => e = .returned (.string r) ∧ Below w.heap.size w w' := by
  unfold strings_ReplaceAll.f at h
  split at h
  · rename_i hs
    cases h
    obtain ⟨_, ⟨m, hm⟩, _⟩ := hT
    exact Any.strings_ReplaceAll Tryd.lays155 Tryd.extra155 a0 a1 a2 m w hs.1 hm hs.2.1 hs.2.2
  · cases h
end Go.Proofs.YtbcbmmlpgdndpaaDoor.Q
end
section
set_option linter.unusedSimpArgs false
set_option linter.unusedVariables false
namespace Go.Proofs.YtbcbmmlpgdndpaaDoor.Qu
open Go.Lib Go.Proofs.YtbcbmmlpgdndpaaDoor.P1 Go.Proofs.YtbcbmmlpgdndpaaDoor.Rp
/-- a byte of a form's text -/
def qb (c : UInt8) : List UInt8 := if c = 32 then [43] else encByte 8 c
def quL (l : List UInt8) : List UInt8 := l.flatMap qb
theorem qb_tab : ∀ c : Fin 256, (encByte 8 c.val.toUInt8 = [37, 50, 48] ∧ qb c.val.toUInt8 = [43]) ∨ (encByte 8 c.val.toUInt8 = qb c.val.toUInt8 ∧ ((encByte 8 c.val.toUInt8 = [c.val.toUInt8] ∧ c.val.toUInt8 ≠ 37) ∨ (encByte 8 c.val.toUInt8 = [37, hexU (c.val / 16), hexU (c.val % 16)] ∧ hexU (c.val / 16) ≠ 37 ∧ hexU (c.val % 16) ≠ 37 ∧ [hexU (c.val / 16), hexU (c.val % 16)] ≠ [50, 48]))) := by decide +kernel
theorem qb_cases (c : UInt8) : (encByte 8 c = [37, 50, 48] ∧ qb c = [43]) ∨ (encByte 8 c = qb c ∧ ((∃ b, encByte 8 c = [b] ∧ b ≠ 37) ∨ (∃ r, encByte 8 c = 37 :: r ∧ r.length = 2 ∧ 37 ∉ r ∧ r ≠ [50, 48]))) := by
  have h := qb_tab ⟨c.toNat, c.toNat_lt⟩
  simp only [Nat.toUInt8, UInt8.ofNat_toNat] at h
  rcases h with h | ⟨h, h2 | ⟨h2, h3, h4, h5⟩⟩
  · exact .inl h
  · exact .inr ⟨h, .inl ⟨_, h2⟩⟩
  · exact .inr ⟨h, .inr ⟨_, h2, rfl, by simp only [List.mem_cons, List.not_mem_nil, or_false, not_or]; exact ⟨Ne.symm h3, Ne.symm h4⟩, h5⟩⟩
/-- what the program writes is, byte by byte, what the document writes -/
theorem qu_text (l : List UInt8) : replaceAll (encL 8 l) [37, 50, 48] [43] = quL l :=
  rep_pieces [37, 50, 48] [43] 37 [50, 48] rfl (by decide) (encByte 8) qb (fun c => by
    rcases qb_cases c with h | ⟨h, h2⟩
    · exact .inl h
    · exact .inr ⟨h, h2⟩) l
theorem quL_cons (c : UInt8) (l : List UInt8) : quL (c :: l) = qb c ++ quL l := by simp [quL]
theorem qb_length (c : UInt8) : (qb c).length ≤ 3 := by
  unfold qb
  split
  · simp
  · exact encByte_length 8 c
theorem quL_length (l : List UInt8) : (quL l).length ≤ 3 * l.length := by
  induction l with
  | nil => simp [quL]
  | cons c l ih => have := qb_length c; rw [quL_cons, List.length_append, List.length_cons]; omega
/-- a plus is read as a blank -/
def unq (l : List UInt8) : List UInt8 := l.map fun b => if b = 43 then 32 else b
theorem un_text (s : List UInt8) : replaceAll s [43] [32] = unq s := rep_byte 43 32 (by decide) s
theorem unq_length (l : List UInt8) : (unq l).length = l.length := by simp [unq]
/-- what stands ahead of the first sign, and behind it -/
def atB (c : UInt8) : List UInt8 → List UInt8 × List UInt8
  | [] => ([], [])
  | b :: t => if b = c then ([], t) else ((b :: (atB c t).1), (atB c t).2)
/-- a form's text and its reading -/
def prt : List (List UInt8 × List UInt8) → List UInt8
  | [] => []
  | [p] => quL p.1 ++ 61 :: quL p.2
  | p :: q :: r => (quL p.1 ++ 61 :: quL p.2) ++ 38 :: prt (q :: r)
end Go.Proofs.YtbcbmmlpgdndpaaDoor.Qu
end
section
namespace Go.Proofs.YtbcbmmlpgdndpaaDoor.Q
open Go.RowKit Go.Proofs.YtbcbmmlpgdndpaaDoorW.PrintWords Go.Proofs.YtbcbmmlpgdndpaaDoorW.PrintLast Go.Proofs.YtbcbmmlpgdndpaaDoorW.PrintMore Go.Proofs.YtbcbmmlpgdndpaaDoor.P1 Go.Proofs.YtbcbmmlpgdndpaaDoor.Qu
set_option linter.unusedSimpArgs false
end Go.Proofs.YtbcbmmlpgdndpaaDoor.Q
end
section
set_option linter.unusedSimpArgs false
set_option linter.unusedVariables false
namespace Go.Proofs.YtbcbmmlpgdndpaaDoor.Q
open Go.RowKit Go.Proofs.YtbcbmmlpgdndpaaDoorW.PrintWords Go.Proofs.YtbcbmmlpgdndpaaDoorW.PrintLast Go.Proofs.YtbcbmmlpgdndpaaDoorW.PrintMore Go.Proofs.YtbcbmmlpgdndpaaDoor.P1 Go.Proofs.YtbcbmmlpgdndpaaDoor.Qu
end Go.Proofs.YtbcbmmlpgdndpaaDoor.Q
end
section
namespace Go.Proofs.YtbcbmmlpgdndpaaDoor.Q
open Go.RowKit Go.Proofs.YtbcbmmlpgdndpaaDoorW.PrintWords Go.Proofs.YtbcbmmlpgdndpaaDoorW.PrintLast Go.Proofs.YtbcbmmlpgdndpaaDoorW.PrintMore
attribute [local go_sem] max2_int min2_int max_two min_two max_three min_three max_four min_four
set_option linter.unusedVariables false
set_option linter.unusedSimpArgs false
end Go.Proofs.YtbcbmmlpgdndpaaDoor.Q
end
