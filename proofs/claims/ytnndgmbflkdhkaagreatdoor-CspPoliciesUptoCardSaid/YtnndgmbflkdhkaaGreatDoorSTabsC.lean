/- What a row's listed variables give the contracts; and a world that holds them. -/
import Derived.Test.YtnndgmbflkdhkaaGreatDoorRows
import Derived.Test.YtnndgmbflkdhkaaGreatDoorSB4
import Derived.PinnedBridge
import Derived.Lib.LaidU8
import Derived.Lib.LaidTab
import Derived.LaidLaws
import Derived.ProofKit
import Derived.Clock
set_option linter.unusedSimpArgs false
set_option linter.unusedVariables false
namespace Go.Proofs.YtnndgmbflkdhkaaGreatDoor.Q
open Go.Shelf Go.Lib
set_option maxRecDepth 100000
def Tryz.lays260_ren : Go.Shelf.Ren := ⟨fun | 260 => 100 | n => n, fun | 0 => 0 | 3 => 3 | 4 => 4 | 5 => 5 | 9 => 9 | 21 => 21 | 46 => 129 | 119 => 127 | 138 => 131 | 139 => 132 | n => n, fun | 3 => 1 | 4 => 2 | n => n⟩
theorem Tryz.lays260 : Go.Proofs.Lays.n260 Tryz.prog Tryz.lays260_ren := {
  mixed := by kernel_rfl
  f260 := Tryz.func100.trans (congrArg some (by kernel_rfl))
  t0 := Tryz.underlying0
  a0 := Tryz.isAgg0
  z0 := Tryz.sizeOf0
  v0 := Tryz.zeroValue0
  t3 := Tryz.underlying3
  a3 := Tryz.isAgg3
  z3 := Tryz.sizeOf3
  v3 := Tryz.zeroValue3
  t4 := Tryz.underlying4
  a4 := Tryz.isAgg4
  z4 := Tryz.sizeOf4
  v4 := Tryz.zeroValue4
  t5 := Tryz.underlying5
  a5 := Tryz.isAgg5
  z5 := Tryz.sizeOf5
  v5 := Tryz.zeroValue5
  t9 := Tryz.underlying9
  a9 := Tryz.isAgg9
  z9 := Tryz.sizeOf9
  v9 := Tryz.zeroValue9
  t21 := Tryz.underlying21
  a21 := Tryz.isAgg21
  z21 := Tryz.sizeOf21
  v21 := Tryz.zeroValue21
  t46 := Tryz.underlying129
  a46 := Tryz.isAgg129
  z46 := Tryz.sizeOf129
  v46 := Tryz.zeroValue129
  t119 := Tryz.underlying127
  a119 := Tryz.isAgg127
  z119 := Tryz.sizeOf127
  t138 := Tryz.underlying131
  a138 := Tryz.isAgg131
  z138 := Tryz.sizeOf131
  v138 := Tryz.zeroValue131
  t139 := Tryz.underlying132
  a139 := Tryz.isAgg132
  z139 := Tryz.sizeOf132
  v139 := Tryz.zeroValue132
  g3 := by kernel_rfl
  g4 := by kernel_rfl }
theorem utf8Extra : U8Extra Tryz.prog Tryz.lays260_ren := { n3 := by kernel_rfl, n4 := by kernel_rfl, y3 := by kernel_rfl, y4 := by kernel_rfl, c5 := by kernel_rfl, c119 := by kernel_rfl, c138 := by kernel_rfl }
def laidL : List (String × DataW Unit) := [("math/bits.deBruijn32tab", Rows.laid_math_bits_deBruijn32tab), ("math/bits.deBruijn64tab", Rows.laid_math_bits_deBruijn64tab), ("internal/strconv.uint64pow10", Rows.laid_internal_strconv_uint64pow10), ("unicode/utf8.acceptRanges", Rows.laid_unicode_utf8_acceptRanges), ("strconv.ErrRange", Rows.laid_strconv_ErrRange), ("strconv.ErrSyntax", Rows.laid_strconv_ErrSyntax), ("unicode.White_Space", Rows.laid_unicode_White_Space), ("strings.asciiSpace", Rows.laid_strings_asciiSpace), ("unicode/utf8.first", Rows.laid_unicode_utf8_first)]
theorem tab_of_reads {P : Program} {W : World} {name : String} {k : IntKind} {zs : List Int} {g : Nat} {t e : TypeId} {n : Nat}
    (hg : P.globalNamed name = some g) (hty : (P.globals[g]?).map (·.type) = some t) (ht : P.underlying t = some (.array n e)) (he : P.underlying e = some (.int k)) (hce : P.cellsOf e = 1) (hct : P.cellsOf t = n)
    (h : VarReads P W name (tabData k zs)) : TabIs P W name k zs := by
  obtain ⟨g', t', cs, fuel, p, hg', ht', hvar, hd⟩ := h
  obtain rfl := Option.some.inj (hg.symm.trans hg')
  obtain rfl := Option.some.inj (hty.symm.trans ht')
  unfold TabIs
  rw [hvar, ← cells_of_tab ht he hce hct hd]
theorem iface_of_reads {P : Program} {W : World} {name nm : String} {d : DataW Unit} {g : Nat} {t : TypeId} {ms : Array (String × TypeId)}
    (hg : P.globalNamed name = some g) (hty : (P.globals[g]?).map (·.type) = some t) (hi : P.underlying t = some (.interface ms))
    (h : VarReads P W name (.iface nm d)) : ∃ ev, W.cell? ⟨g, 0, none⟩ = some ev ∧ (ev = .nilIface ∨ ∃ te pe, ev = .iface te pe) := by
  obtain ⟨g', t', cs, fuel, p, hg', ht', hvar, hd⟩ := h
  obtain rfl := Option.some.inj (hg.symm.trans hg')
  obtain rfl := Option.some.inj (hty.symm.trans ht')
  obtain ⟨fuel', u, v, he, _⟩ := iface_of_trod hi hd
  have h0 := World.var?_cell hg hvar 0
  refine ⟨.iface u v, ?_, .inr ⟨_, _, rfl⟩⟩
  rw [h0, ← Array.getElem?_toList, he]
  rfl
theorem utabs_of_laid0 {W : World} (h : laidMetH Tryz.prog laidL W) (hM : ∃ m, W.cell? ⟨3, 0, none⟩ = some (.int .i64 m)) : UTabs W := by
  have h' : laidMet Tryz.prog laidL W := h
  refine ⟨utf8Tabs_of_reads Tryz.lays260 utf8Extra ?_ ?_, hM, ?_, ?_, ?_⟩
  · exact Pinned.utf8First_eq ▸ laidMet.reads h' (n := "unicode/utf8.first") (d := Rows.laid_unicode_utf8_first) (by simp [laidL])
  · have := laidMet.reads h' (n := "unicode/utf8.acceptRanges") (d := Rows.laid_unicode_utf8_acceptRanges) (by simp [laidL])
    rw [show (acceptData : DataW Unit) = Rows.laid_unicode_utf8_acceptRanges by kernel_rfl]
    exact this
  · have := laidMet.reads h' (n := "strings.asciiSpace") (d := Rows.laid_strings_asciiSpace) (by simp [laidL])
    rw [show (Rows.laid_strings_asciiSpace : DataW Unit) = tabData .u8 asciiSpaceTab by kernel_rfl] at this
    exact tab_of_reads (g := 0) (t := 127) (e := 5) (n := 256) (by kernel_rfl) (by kernel_rfl) (by kernel_rfl) (by kernel_rfl) (by kernel_rfl) (by kernel_rfl) this
  · have := laidMet.reads h' (n := "strconv.ErrSyntax") (d := Rows.laid_strconv_ErrSyntax) (by simp [laidL])
    exact iface_of_reads (g := 5) (t := 89) (by kernel_rfl) (by kernel_rfl) Tryz.underlying89 this
  · have := laidMet.reads h' (n := "strconv.ErrRange") (d := Rows.laid_strconv_ErrRange) (by simp [laidL])
    exact iface_of_reads (g := 6) (t := 89) (by kernel_rfl) (by kernel_rfl) Tryz.underlying89 this
theorem int_of_shape {P : Program} {w : World} {g : Nat} {t : TypeId} {zero : Array Value} {k : IntKind} (h : w.ShapedOpen P) (hg : g < P.globals.size)
    (h0 : ((begin P (fun _ _ => 0) default).world.heap[g]?).bind Obj.row? = some (zero, t)) (hz : zero.size = 1)
    (hb : P.buildable t = true) (hc : P.cellTypes P.depth t = some [t]) (hu : P.underlying t = some (.int k)) : ∃ m, w.cell? ⟨g, 0, none⟩ = some (.int k m) := by
  obtain ⟨cs, hh, hs, hr⟩ := h.1 g zero t hg h0
  obtain ⟨ts, hts, _, hall⟩ := hr hb
  rw [hc] at hts
  cases hts
  have h1 : 0 < cs.size := by omega
  obtain ⟨u, hu', hok⟩ := hall 0 cs[0] (by simp [h1])
  have : u = t := by simpa using hu'.symm
  subst this
  have hcell : w.cell? ⟨g, 0, none⟩ = some cs[0] := by simp [World.cell?, hh, h1]
  rw [hcell]
  unfold Cell.ok at hok
  rw [hu] at hok
  cases hv : cs[0] <;> rw [hv] at hok <;> first | (simp at hok; done) | skip
  obtain ⟨rfl, _⟩ := hok
  exact ⟨_, rfl⟩
theorem utabs_of_laid {W : World} (h : laidMetH Tryz.prog laidL W) (hS : W.ShapedOpen Tryz.prog) : UTabs W :=
  utabs_of_laid0 h (int_of_shape (t := 3) (zero := #[.int .i64 0]) hS (of_decide_eq_true (by kernel_rfl)) (by kernel_rfl) rfl (by kernel_rfl) (by kernel_rfl) Tryz.underlying3)
/-- laid, at places in the blocks S alone -/
def LM (P : Program) (w : World) (S : List Nat) (l : List (String × DataW Unit)) : Prop :=
  ∃ ps, DataW.LaidVars P w l ps ∧ ps.Nodup ∧ (∀ b off, MemPlace.cell b off ∈ ps → (∃ c t, w.heap[b]? = some (.cells c t (0, 0))) ∧ ∀ u v, w.cell? ⟨b, off, none⟩ = some (.iface u v) → Value.okWide P w .any 0 u v) ∧ ∀ p ∈ ps, ∃ b off, p = MemPlace.cell b off ∧ b ∈ S
def inS (S : List Nat) : MemPlace → Bool
  | .cell b _ => S.contains b
  | _ => false
theorem laidVars_append {P : Program} {w : World} : ∀ {l1 l2 : List (String × DataW Unit)} {p1 p2 : List MemPlace}, DataW.LaidVars P w l1 p1 → DataW.LaidVars P w l2 p2 → DataW.LaidVars P w (l1 ++ l2) (p1 ++ p2)
  | [], l2, p1, p2, h1, h2 => by
    have : p1 = [] := h1
    subst this
    exact h2
  | (n, d) :: r, l2, p1, p2, h1, h2 => by
    obtain ⟨g, t, cs, fuel, p, q, e1, e2, e3, e4, e5, e6⟩ := h1
    exact ⟨g, t, cs, fuel, p, q ++ p2, e1, e2, e3, e4, laidVars_append e5 h2, by rw [e6]; simp [List.append_assoc]⟩
theorem LM_join {P : Program} {w : World} {S1 S2 : List Nat} {l1 l2 : List (String × DataW Unit)} (h1 : LM P w S1 l1) (h2 : LM P w S2 l2) (hd : (S1.all fun b => !S2.contains b) = true) : LM P w (S1 ++ S2) (l1 ++ l2) := by
  obtain ⟨p1, a1, b1, c1, d1⟩ := h1
  obtain ⟨p2, a2, b2, c2, d2⟩ := h2
  refine ⟨p1 ++ p2, laidVars_append a1 a2, ?_, fun b off hm => ?_, fun p hm => ?_⟩
  · rw [List.nodup_append]
    refine ⟨b1, b2, fun x hx y hy e => ?_⟩
    subst e
    obtain ⟨b, off, rfl, hb⟩ := d1 x hx
    obtain ⟨b', off', e', hb'⟩ := d2 _ hy
    cases e'
    have := List.all_eq_true.1 hd b hb
    simp [hb'] at this
  · rcases List.mem_append.1 hm with h | h
    · exact c1 b off h
    · exact c2 b off h
  · rcases List.mem_append.1 hm with h | h
    · obtain ⟨b, off, e, hb⟩ := d1 p h
      exact ⟨b, off, e, List.mem_append_left _ hb⟩
    · obtain ⟨b, off, e, hb⟩ := d2 p h
      exact ⟨b, off, e, List.mem_append_right _ hb⟩
theorem LM_of_run {P : Program} {w : World} {l : List (String × DataW Unit)} (fuel : Nat) (S : List Nat) (h : (DataW.laidRun P w fuel (l.map (·.1))).map (·.1) = some l)
    (hr : (DataW.laidRun P w fuel (l.map (·.1))).map (fun x => decide x.2.Nodup && laidRowsB P w x.2 && x.2.all (inS S)) = some true) : LM P w S l := by
  cases hx : DataW.laidRun P w fuel (l.map (·.1)) with
  | none => simp [hx] at h
  | some x =>
    obtain ⟨l', ps⟩ := x
    simp only [hx, Option.map_some, Option.some.injEq] at h hr
    subst h
    simp only [Bool.and_eq_true] at hr
    obtain ⟨⟨h1, h2⟩, h3⟩ := hr
    refine ⟨ps, DataW.LaidVars_of_laidRun hx, of_decide_eq_true h1, fun b off hp => ?_, fun p hp => ?_⟩
    · have := List.all_eq_true.1 h2 _ hp
      simp only [Bool.and_eq_true] at this
      obtain ⟨q1, q2⟩ := this
      refine ⟨?_, fun u v hc => ?_⟩
      · split at q1
        · rename_i c t hh
          exact ⟨c, t, hh⟩
        · cases q1
      · rw [hc] at q2
        exact Value.okWide_of_okWideB q2
    · have := List.all_eq_true.1 h3 _ hp
      cases p with
      | cell b off => exact ⟨b, off, rfl, by simpa [inS] using this⟩
      | map r => simp [inS] at this
theorem laidMet_of_LM {P : Program} {w : World} {S : List Nat} {l : List (String × DataW Unit)} (h : LM P w S l) : laidMet P l w := by
  obtain ⟨ps, a, b, c, _⟩ := h
  exact ⟨ps, a, b, c⟩
def blk1 : List Nat := [8, 9, 7]
def blk2 : List Nat := [2, 6, 5, 4, 16, 17, 18, 19]
def blk3 : List Nat := [0]
def blk4 : List Nat := [1]
def setc (cs : Array Value) : Obj → Obj
  | .cells _ t f => .cells cs t f
  | o => o
/-- The settled world, the listed variables as their initialisers lay them. -/
noncomputable def laidWorld (os : Os) : World :=
  let w0 := World.holding Tryz.prog os ⟨#[], #[], []⟩
  { w0 with heap := (((((((((((((w0.heap.modify 1 (setc (firstTab.map fun z => Value.int .u8 z).toArray)).modify 2 (setc (((List.range 16).map fun i => [Value.int .u8 (accLo i), Value.int .u8 (accHi i)]).flatten).toArray)).modify 0 (setc (asciiSpaceTab.map fun z => Value.int .u8 z).toArray)).modify 8 (setc #[.int .u8 0, .int .u8 1, .int .u8 28, .int .u8 2, .int .u8 29, .int .u8 14, .int .u8 24, .int .u8 3, .int .u8 30, .int .u8 22, .int .u8 20, .int .u8 15, .int .u8 25, .int .u8 17, .int .u8 4, .int .u8 8, .int .u8 31, .int .u8 27, .int .u8 13, .int .u8 23, .int .u8 21, .int .u8 19, .int .u8 16, .int .u8 7, .int .u8 26, .int .u8 12, .int .u8 18, .int .u8 6, .int .u8 11, .int .u8 5, .int .u8 10, .int .u8 9])).modify 9 (setc #[.int .u8 0, .int .u8 1, .int .u8 56, .int .u8 2, .int .u8 57, .int .u8 49, .int .u8 28, .int .u8 3, .int .u8 61, .int .u8 58, .int .u8 42, .int .u8 50, .int .u8 38, .int .u8 29, .int .u8 17, .int .u8 4, .int .u8 62, .int .u8 47, .int .u8 59, .int .u8 36, .int .u8 45, .int .u8 43, .int .u8 51, .int .u8 22, .int .u8 53, .int .u8 39, .int .u8 33, .int .u8 30, .int .u8 24, .int .u8 18, .int .u8 12, .int .u8 5, .int .u8 63, .int .u8 55, .int .u8 48, .int .u8 27, .int .u8 60, .int .u8 41, .int .u8 37, .int .u8 16, .int .u8 46, .int .u8 35, .int .u8 44, .int .u8 21, .int .u8 52, .int .u8 32, .int .u8 23, .int .u8 11, .int .u8 54, .int .u8 26, .int .u8 40, .int .u8 15, .int .u8 34, .int .u8 20, .int .u8 31, .int .u8 10, .int .u8 25, .int .u8 14, .int .u8 19, .int .u8 9, .int .u8 13, .int .u8 8, .int .u8 7, .int .u8 6])).modify 7 (setc #[.int .u64 1, .int .u64 10, .int .u64 100, .int .u64 1000, .int .u64 10000, .int .u64 100000, .int .u64 1000000, .int .u64 10000000, .int .u64 100000000, .int .u64 1000000000, .int .u64 10000000000, .int .u64 100000000000, .int .u64 1000000000000, .int .u64 10000000000000, .int .u64 100000000000000, .int .u64 1000000000000000, .int .u64 10000000000000000, .int .u64 100000000000000000, .int .u64 1000000000000000000, .int .u64 10000000000000000000])).modify 6 (setc #[.iface 162 (.pointer (some ⟨16, 0, none⟩))])).modify 5 (setc #[.iface 162 (.pointer (some ⟨17, 0, none⟩))])).modify 4 (setc #[.pointer (some ⟨18, 0, none⟩)])).push (.cells #[.string ⟨#[118, 97, 108, 117, 101, 32, 111, 117, 116, 32, 111, 102, 32, 114, 97, 110, 103, 101]⟩] 164 (0, 0))).push (.cells #[.string ⟨#[105, 110, 118, 97, 108, 105, 100, 32, 115, 121, 110, 116, 97, 120]⟩] 164 (0, 0))).push (.cells #[.slice (some ⟨19, 0, none⟩) 7 7, .slice none 0 0, .int .i64 2] 148 (0, 0))).push (.cells #[.int .u16 9, .int .u16 13, .int .u16 1, .int .u16 32, .int .u16 133, .int .u16 101, .int .u16 160, .int .u16 5760, .int .u16 5600, .int .u16 8192, .int .u16 8202, .int .u16 1, .int .u16 8232, .int .u16 8233, .int .u16 1, .int .u16 8239, .int .u16 8287, .int .u16 48, .int .u16 12288, .int .u16 12288, .int .u16 1] 151 (0, 0))) }
end Go.Proofs.YtnndgmbflkdhkaaGreatDoor.Q
