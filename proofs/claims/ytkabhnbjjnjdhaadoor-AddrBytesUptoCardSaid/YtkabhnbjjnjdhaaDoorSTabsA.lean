/- What a row's listed variables give the contracts; and a world that holds them. -/
import Derived.Test.YtkabhnbjjnjdhaaDoorRows
import Derived.Test.YtkabhnbjjnjdhaaDoorSQbase
import Derived.PinnedBridge
import Derived.Lib.LaidU8
import Derived.Lib.LaidTab
import Derived.LaidLaws
import Derived.ProofKit
import Derived.Clock
set_option linter.unusedSimpArgs false
set_option linter.unusedVariables false
namespace Go.Proofs.YtkabhnbjjnjdhaaDoor.Q
open Go.Shelf Go.Lib
set_option maxRecDepth 100000
def laidL : List (String × DataW Unit) := [("math/bits.deBruijn32tab", Rows.laid_math_bits_deBruijn32tab), ("math/bits.deBruijn64tab", Rows.laid_math_bits_deBruijn64tab), ("internal/strconv.uint64pow10", Rows.laid_internal_strconv_uint64pow10), ("unicode/utf8.acceptRanges", Rows.laid_unicode_utf8_acceptRanges), ("strconv.ErrRange", Rows.laid_strconv_ErrRange), ("strconv.ErrSyntax", Rows.laid_strconv_ErrSyntax), ("unicode/utf8.first", Rows.laid_unicode_utf8_first)]
theorem tab_of_reads {P : Program} {W : World} {name : String} {k : IntKind} {zs : List Int} {g : Nat} {t e : TypeId} {n : Nat}
    (hg : P.globalNamed name = some g) (hty : (P.globals[g]?).map (·.type) = some t) (ht : P.underlying t = some (.array n e)) (he : P.underlying e = some (.int k)) (hce : P.cellsOf e = 1) (hct : P.cellsOf t = n)
    (h : VarReads P W name (tabData k zs)) : TabIs P W name k zs := by
  obtain ⟨g', t', cs, fuel, p, hg', ht', hvar, hd⟩ := h
  obtain rfl := Option.some.inj (hg.symm.trans hg')
  obtain rfl := Option.some.inj (hty.symm.trans ht')
  unfold TabIs
  rw [hvar, ← cells_of_tab ht he hce hct hd]
theorem iface_of_reads {P : Program} {W : World} {name nm : String} {d : DataW Unit} {g : Nat} {t : TypeId} {ms : Array (String × TypeId)}
    (hg : P.globalNamed name = some g) (hty : (P.globals[g]?).map (·.type) = some t) (hi : P.underlying t = some (.interface ms))
    (h : VarReads P W name (.iface nm d)) : ∃ ev, W.cell? ⟨g, 0, none⟩ = some ev ∧ (ev = .nilIface ∨ ∃ te pe, ev = .iface te pe) := by
  obtain ⟨g', t', cs, fuel, p, hg', ht', hvar, hd⟩ := h
  obtain rfl := Option.some.inj (hg.symm.trans hg')
  obtain rfl := Option.some.inj (hty.symm.trans ht')
  obtain ⟨fuel', u, v, he, _⟩ := iface_of_trod hi hd
  have h0 := World.var?_cell hg hvar 0
  refine ⟨.iface u v, ?_, .inr ⟨_, _, rfl⟩⟩
  rw [h0, ← Array.getElem?_toList, he]
  rfl
theorem utabs_of_laid0 {W : World} (h : laidMetH Tryd.prog laidL W) (hM : ∃ m, W.cell? ⟨0, 0, none⟩ = some (.int .i64 m)) : UTabs W := by
  have h' : laidMet Tryd.prog laidL W := h
  refine ⟨hM, ?_, ?_, ?_, ?_⟩
  · have := laidMet.reads h' (n := "internal/strconv.uint64pow10") (d := Rows.laid_internal_strconv_uint64pow10) (by simp [laidL])
    rw [show (Rows.laid_internal_strconv_uint64pow10 : DataW Unit) = tabData .u64 pow10Tab by kernel_rfl] at this
    exact tab_of_reads (g := 3) (t := 112) (e := 42) (n := 20) (by kernel_rfl) (by kernel_rfl) (by kernel_rfl) (by kernel_rfl) (by kernel_rfl) (by kernel_rfl) this
  · have := laidMet.reads h' (n := "math/bits.deBruijn64tab") (d := Rows.laid_math_bits_deBruijn64tab) (by simp [laidL])
    rw [show (Rows.laid_math_bits_deBruijn64tab : DataW Unit) = tabData .u8 [0, 1, 56, 2, 57, 49, 28, 3, 61, 58, 42, 50, 38, 29, 17, 4, 62, 47, 59, 36, 45, 43, 51, 22, 53, 39, 33, 30, 24, 18, 12, 5, 63, 55, 48, 27, 60, 41, 37, 16, 46, 35, 44, 21, 52, 32, 23, 11, 54, 26, 40, 15, 34, 20, 31, 10, 25, 14, 19, 9, 13, 8, 7, 6] by kernel_rfl] at this
    exact tab_of_reads (g := 7) (t := 125) (e := 5) (n := 64) (by kernel_rfl) (by kernel_rfl) (by kernel_rfl) (by kernel_rfl) (by kernel_rfl) (by kernel_rfl) this
  · have := laidMet.reads h' (n := "strconv.ErrSyntax") (d := Rows.laid_strconv_ErrSyntax) (by simp [laidL])
    exact iface_of_reads (g := 1) (t := 60) (by kernel_rfl) (by kernel_rfl) Tryd.underlying60 this
  · have := laidMet.reads h' (n := "strconv.ErrRange") (d := Rows.laid_strconv_ErrRange) (by simp [laidL])
    exact iface_of_reads (g := 2) (t := 60) (by kernel_rfl) (by kernel_rfl) Tryd.underlying60 this
theorem int_of_shape {P : Program} {w : World} {g : Nat} {t : TypeId} {zero : Array Value} {k : IntKind} (h : w.ShapedOpen P) (hg : g < P.globals.size)
    (h0 : ((begin P (fun _ _ => 0) default).world.heap[g]?).bind Obj.row? = some (zero, t)) (hz : zero.size = 1)
    (hb : P.buildable t = true) (hc : P.cellTypes P.depth t = some [t]) (hu : P.underlying t = some (.int k)) : ∃ m, w.cell? ⟨g, 0, none⟩ = some (.int k m) := by
  obtain ⟨cs, hh, hs, hr⟩ := h.1 g zero t hg h0
  obtain ⟨ts, hts, _, hall⟩ := hr hb
  rw [hc] at hts
  cases hts
  have h1 : 0 < cs.size := by omega
  obtain ⟨u, hu', hok⟩ := hall 0 cs[0] (by simp [h1])
  have : u = t := by simpa using hu'.symm
  subst this
  have hcell : w.cell? ⟨g, 0, none⟩ = some cs[0] := by simp [World.cell?, hh, h1]
  rw [hcell]
  unfold Cell.ok at hok
  rw [hu] at hok
  cases hv : cs[0] <;> rw [hv] at hok <;> first | (simp at hok; done) | skip
  obtain ⟨rfl, _⟩ := hok
  exact ⟨_, rfl⟩
theorem utabs_of_laid {W : World} (h : laidMetH Tryd.prog laidL W) (hS : W.ShapedOpen Tryd.prog) : UTabs W :=
  utabs_of_laid0 h (int_of_shape (t := 3) (zero := #[.int .i64 0]) hS (of_decide_eq_true (by kernel_rfl)) (by kernel_rfl) rfl (by kernel_rfl) (by kernel_rfl) Tryd.underlying3)
/-- laid, at places in the blocks S alone -/
def LM (P : Program) (w : World) (S : List Nat) (l : List (String × DataW Unit)) : Prop :=
  ∃ ps, DataW.LaidVars P w l ps ∧ ps.Nodup ∧ (∀ b off, MemPlace.cell b off ∈ ps → (∃ c t, w.heap[b]? = some (.cells c t (0, 0))) ∧ ∀ u v, w.cell? ⟨b, off, none⟩ = some (.iface u v) → Value.okWide P w .any 0 u v) ∧ ∀ p ∈ ps, ∃ b off, p = MemPlace.cell b off ∧ b ∈ S
def inS (S : List Nat) : MemPlace → Bool
  | .cell b _ => S.contains b
  | _ => false
theorem laidVars_append {P : Program} {w : World} : ∀ {l1 l2 : List (String × DataW Unit)} {p1 p2 : List MemPlace}, DataW.LaidVars P w l1 p1 → DataW.LaidVars P w l2 p2 → DataW.LaidVars P w (l1 ++ l2) (p1 ++ p2)
  | [], l2, p1, p2, h1, h2 => by
    have : p1 = [] := h1
    subst this
    exact h2
  | (n, d) :: r, l2, p1, p2, h1, h2 => by
    obtain ⟨g, t, cs, fuel, p, q, e1, e2, e3, e4, e5, e6⟩ := h1
    exact ⟨g, t, cs, fuel, p, q ++ p2, e1, e2, e3, e4, laidVars_append e5 h2, by rw [e6]; simp [List.append_assoc]⟩
theorem LM_join {P : Program} {w : World} {S1 S2 : List Nat} {l1 l2 : List (String × DataW Unit)} (h1 : LM P w S1 l1) (h2 : LM P w S2 l2) (hd : (S1.all fun b => !S2.contains b) = true) : LM P w (S1 ++ S2) (l1 ++ l2) := by
  obtain ⟨p1, a1, b1, c1, d1⟩ := h1
  obtain ⟨p2, a2, b2, c2, d2⟩ := h2
  refine ⟨p1 ++ p2, laidVars_append a1 a2, ?_, fun b off hm => ?_, fun p hm => ?_⟩
  · rw [List.nodup_append]
    refine ⟨b1, b2, fun x hx y hy e => ?_⟩
    subst e
    obtain ⟨b, off, rfl, hb⟩ := d1 x hx
    obtain ⟨b', off', e', hb'⟩ := d2 _ hy
    cases e'
    have := List.all_eq_true.1 hd b hb
    simp [hb'] at this
  · rcases List.mem_append.1 hm with h | h
    · exact c1 b off h
    · exact c2 b off h
  · rcases List.mem_append.1 hm with h | h
    · obtain ⟨b, off, e, hb⟩ := d1 p h
      exact ⟨b, off, e, List.mem_append_left _ hb⟩
    · obtain ⟨b, off, e, hb⟩ := d2 p h
      exact ⟨b, off, e, List.mem_append_right _ hb⟩
theorem LM_of_run {P : Program} {w : World} {l : List (String × DataW Unit)} (fuel : Nat) (S : List Nat) (h : (DataW.laidRun P w fuel (l.map (·.1))).map (·.1) = some l)
    (hr : (DataW.laidRun P w fuel (l.map (·.1))).map (fun x => decide x.2.Nodup && laidRowsB P w x.2 && x.2.all (inS S)) = some true) : LM P w S l := by
  cases hx : DataW.laidRun P w fuel (l.map (·.1)) with
  | none => simp [hx] at h
  | some x =>
    obtain ⟨l', ps⟩ := x
    simp only [hx, Option.map_some, Option.some.injEq] at h hr
    subst h
    simp only [Bool.and_eq_true] at hr
    obtain ⟨⟨h1, h2⟩, h3⟩ := hr
    refine ⟨ps, DataW.LaidVars_of_laidRun hx, of_decide_eq_true h1, fun b off hp => ?_, fun p hp => ?_⟩
    · have := List.all_eq_true.1 h2 _ hp
      simp only [Bool.and_eq_true] at this
      obtain ⟨q1, q2⟩ := this
      refine ⟨?_, fun u v hc => ?_⟩
      · split at q1
        · rename_i c t hh
          exact ⟨c, t, hh⟩
        · cases q1
      · rw [hc] at q2
        exact Value.okWide_of_okWideB q2
    · have := List.all_eq_true.1 h3 _ hp
      cases p with
      | cell b off => exact ⟨b, off, rfl, by simpa [inS] using this⟩
      | map r => simp [inS] at this
theorem laidMet_of_LM {P : Program} {w : World} {S : List Nat} {l : List (String × DataW Unit)} (h : LM P w S l) : laidMet P l w := by
  obtain ⟨ps, a, b, c, _⟩ := h
  exact ⟨ps, a, b, c⟩
def blk1 : List Nat := [6, 7, 3]
def blk2 : List Nat := [5, 2, 1, 13, 14]
def blk4 : List Nat := [4]
def setc (cs : Array Value) : Obj → Obj
  | .cells _ t f => .cells cs t f
  | o => o
/-- The settled world, the listed variables as their initialisers lay them. -/
noncomputable def laidWorld (os : Os) : World :=
  let w0 := World.holding Tryd.prog os ⟨#[], #[], []⟩
  { w0 with heap := ((((((((w0.heap.modify 4 (setc (firstTab.map fun z => Value.int .u8 z).toArray)).modify 5 (setc (((List.range 16).map fun i => [Value.int .u8 (accLo i), Value.int .u8 (accHi i)]).flatten).toArray)).modify 6 (setc #[.int .u8 0, .int .u8 1, .int .u8 28, .int .u8 2, .int .u8 29, .int .u8 14, .int .u8 24, .int .u8 3, .int .u8 30, .int .u8 22, .int .u8 20, .int .u8 15, .int .u8 25, .int .u8 17, .int .u8 4, .int .u8 8, .int .u8 31, .int .u8 27, .int .u8 13, .int .u8 23, .int .u8 21, .int .u8 19, .int .u8 16, .int .u8 7, .int .u8 26, .int .u8 12, .int .u8 18, .int .u8 6, .int .u8 11, .int .u8 5, .int .u8 10, .int .u8 9])).modify 7 (setc #[.int .u8 0, .int .u8 1, .int .u8 56, .int .u8 2, .int .u8 57, .int .u8 49, .int .u8 28, .int .u8 3, .int .u8 61, .int .u8 58, .int .u8 42, .int .u8 50, .int .u8 38, .int .u8 29, .int .u8 17, .int .u8 4, .int .u8 62, .int .u8 47, .int .u8 59, .int .u8 36, .int .u8 45, .int .u8 43, .int .u8 51, .int .u8 22, .int .u8 53, .int .u8 39, .int .u8 33, .int .u8 30, .int .u8 24, .int .u8 18, .int .u8 12, .int .u8 5, .int .u8 63, .int .u8 55, .int .u8 48, .int .u8 27, .int .u8 60, .int .u8 41, .int .u8 37, .int .u8 16, .int .u8 46, .int .u8 35, .int .u8 44, .int .u8 21, .int .u8 52, .int .u8 32, .int .u8 23, .int .u8 11, .int .u8 54, .int .u8 26, .int .u8 40, .int .u8 15, .int .u8 34, .int .u8 20, .int .u8 31, .int .u8 10, .int .u8 25, .int .u8 14, .int .u8 19, .int .u8 9, .int .u8 13, .int .u8 8, .int .u8 7, .int .u8 6])).modify 3 (setc #[.int .u64 1, .int .u64 10, .int .u64 100, .int .u64 1000, .int .u64 10000, .int .u64 100000, .int .u64 1000000, .int .u64 10000000, .int .u64 100000000, .int .u64 1000000000, .int .u64 10000000000, .int .u64 100000000000, .int .u64 1000000000000, .int .u64 10000000000000, .int .u64 100000000000000, .int .u64 1000000000000000, .int .u64 10000000000000000, .int .u64 100000000000000000, .int .u64 1000000000000000000, .int .u64 10000000000000000000])).modify 2 (setc #[.iface 116 (.pointer (some ⟨13, 0, none⟩))])).modify 1 (setc #[.iface 116 (.pointer (some ⟨14, 0, none⟩))])).push (.cells #[.string ⟨#[118, 97, 108, 117, 101, 32, 111, 117, 116, 32, 111, 102, 32, 114, 97, 110, 103, 101]⟩] 118 (0, 0))).push (.cells #[.string ⟨#[105, 110, 118, 97, 108, 105, 100, 32, 115, 121, 110, 116, 97, 120]⟩] 118 (0, 0)) }
end Go.Proofs.YtkabhnbjjnjdhaaDoor.Q
