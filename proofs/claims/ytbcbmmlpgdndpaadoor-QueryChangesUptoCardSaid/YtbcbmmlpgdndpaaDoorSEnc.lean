/- pct.Encode: what it answers at every text of at most 2^45 bytes; pct.In as a word. -/
import Derived.Test.YtbcbmmlpgdndpaaDoorSBld
import Derived.Test.YtbcbmmlpgdndpaaDoorSB9
import Derived.Test.YtbcbmmlpgdndpaaDoorSQpct0
import Derived.StillTailTactics
import Derived.LoopTactic
import Derived.Laws.BitsLemmas
import Derived.Lib.Hide
namespace Go.Proofs.YtbcbmmlpgdndpaaDoor.Q
open Go.RowKit Go.Proofs.YtbcbmmlpgdndpaaDoorW.PrintWords Go.Proofs.YtbcbmmlpgdndpaaDoorW.PrintLast Go.Proofs.YtbcbmmlpgdndpaaDoorW.PrintMore Go.Proofs.YtbcbmmlpgdndpaaDoor.P1
theorem pct_more_l0 (b : Int) (l : List Int) : ∀ (d k : Nat) (i : Int), 0 ≤ i → (l.length : Int) - i = d → d < k → l.length ≤ 1000 →
    pct_more.l0 k b l l.length i = some ((l.drop i.toNat).contains b) := by
  intro d
  induction d with
  | zero =>
    intro k i h0 hd hk _
    obtain ⟨k, rfl⟩ : ∃ m, k = m + 1 := ⟨k - 1, by omega⟩
    simp only [pct_more.l0]
    rw [if_neg (by omega), List.drop_of_length_le (by omega)]
    simp
  | succ d ih =>
    intro k i h0 hd hk hl
    obtain ⟨k, rfl⟩ : ∃ m, k = m + 1 := ⟨k - 1, by omega⟩
    simp only [pct_more.l0]
    rw [if_pos (by omega), if_pos h0, if_pos (by omega)]
    have hlt : i.toNat < l.length := by omega
    have e : rd l i = l[i.toNat] := by simp [rd, List.getD, hlt]
    have hw : wrap64 (i + 1) = i + 1 := by unfold wrap64; omega
    rw [e, hw, ih k (i + 1) (by omega) (by omega) (by omega) hl, show (i + 1).toNat = i.toNat + 1 from by omega]
    rw [List.drop_eq_getElem_cons hlt, List.contains_cons]
    by_cases h : l[i.toNat] = b
    · rw [if_pos h]; simp [h]
    · rw [if_neg h]; have : (b == l[i.toNat]) = false := by simp; exact fun e => h e.symm
      rw [this]; simp
theorem pct_more_f (b : Int) (l : List Int) (k : Nat) (hk : l.length < k) (hl : l.length ≤ 1000) : pct_more.f k b l = some (l.contains b) := by
  unfold pct_more.f
  rw [pct_more_l0 b l l.length k 0 (by omega) (by omega) hk hl]; rfl
theorem pct_In_f (s b : Int) : pct_In.f 30 s b = some (inB s b) := by
  have m1 := fun k (h : 5 < k) => pct_more_f b [32, 34, 35, 60, 62] k h (by simp)
  have m2 := fun k (h : 5 < k) => pct_more_f b [63, 94, 96, 123, 125] k h (by simp)
  have m3 := fun k (h : 9 < k) => pct_more_f b [47, 58, 59, 61, 64, 91, 92, 93, 124] k h (by simp)
  have m4 := fun k (h : 5 < k) => pct_more_f b [36, 37, 38, 43, 44] k h (by simp)
  have m5 := fun k (h : 5 < k) => pct_more_f b [32, 34, 60, 62, 96] k h (by simp)
  have m6 := fun k (h : 5 < k) => pct_more_f b [33, 39, 40, 41, 126] k h (by simp)
  have j4 : ∀ k x5 x6 x7 x8 x9, 6 < k → pct_In.j4 k s b x5 x6 x7 x8 x9 = some (if s = 1 then x5 else if s = 2 then x5 || [32, 34, 60, 62, 96].contains b else if s = 3 then x6 else if s = 4 then x6 || b == 39 else if s = 5 then x7 else if s = 6 then x8 else if s = 7 then x9 else if s = 8 then x9 || [33, 39, 40, 41, 126].contains b else false) := by
    intro k x5 x6 x7 x8 x9 hk
    obtain ⟨k, rfl⟩ : ∃ m, k = m + 1 := ⟨k - 1, by omega⟩
    simp only [pct_In.j4, m5 k (by omega), m6 k (by omega), Option.bind_some]
    repeat' split
    all_goals simp_all
  have j3 : ∀ k x5 x6 x7 x8, 7 < k → pct_In.j3 k s b x5 x6 x7 x8 = pct_In.j4 (k - 1) s b x5 x6 x7 x8 (x8 || [36, 37, 38, 43, 44].contains b) := by
    intro k x5 x6 x7 x8 hk
    obtain ⟨k, rfl⟩ : ∃ m, k = m + 1 := ⟨k - 1, by omega⟩
    simp only [pct_In.j3, m4 k (by omega), Option.bind_some, Nat.add_sub_cancel]
    cases x8 <;> simp
  have j2 : ∀ k x5 x6 x7, 12 < k → pct_In.j2 k s b x5 x6 x7 = pct_In.j3 (k - 1) s b x5 x6 x7 (x7 || [47, 58, 59, 61, 64, 91, 92, 93, 124].contains b) := by
    intro k x5 x6 x7 hk
    obtain ⟨k, rfl⟩ : ∃ m, k = m + 1 := ⟨k - 1, by omega⟩
    simp only [pct_In.j2, m3 k (by omega), Option.bind_some, Nat.add_sub_cancel]
    cases x7 <;> simp
  have j1 : ∀ k x5 x6, 13 < k → pct_In.j1 k s b x5 x6 = pct_In.j2 (k - 1) s b x5 x6 (x6 || [63, 94, 96, 123, 125].contains b) := by
    intro k x5 x6 hk
    obtain ⟨k, rfl⟩ : ∃ m, k = m + 1 := ⟨k - 1, by omega⟩
    simp only [pct_In.j1, m2 k (by omega), Option.bind_some, Nat.add_sub_cancel]
    cases x6 <;> simp
  have j0 : ∀ k x5, 14 < k → pct_In.j0 k s b x5 = pct_In.j1 (k - 1) s b x5 (x5 || [32, 34, 35, 60, 62].contains b) := by
    intro k x5 hk
    obtain ⟨k, rfl⟩ : ∃ m, k = m + 1 := ⟨k - 1, by omega⟩
    simp only [pct_In.j0, m1 k (by omega), Option.bind_some, Nat.add_sub_cancel]
    cases x5 <;> simp
  have e : pct_In.f 30 s b = pct_In.j0 30 s b (ctl b) := by
    unfold pct_In.f ctl
    by_cases h : b < 32
    · rw [if_pos h]; simp [h]
    · rw [if_neg h]; simp [h]
  rw [e, j0 30 _ (by omega), j1 29 _ _ (by omega), j2 28 _ _ _ (by omega), j3 27 _ _ _ _ (by omega), j4 26 _ _ _ _ _ (by omega)]
  rfl
theorem in_calls (s b : Int) (w : World) : Calls Tryd.prog 62 #[.int .u8 s, .int .u8 b] w fun e w' => e = .returned (.bool (inB s b)) ∧ Below w.heap.size w w' :=
  pct_In.calls 30 s b (inB s b) w (pct_In_f s b)
theorem isBuilder_below {T e : TypeId} {B b : Nat} {bs : List Value} {w w' : World} (h : Lib.IsBuilder T e B b bs w) (hb : Below w.heap.size w w') : Lib.IsBuilder T e B b bs w' := by
  have k : ∀ p, Lib.BuilderAt T e B b p bs w → Lib.BuilderAt T e B b p bs w' := by
    rintro p ⟨h1, v, h2, h3, h4⟩
    have lt : ∀ (i : Nat) (o : Obj), w.heap[i]? = some o → i < w.heap.size := fun i o hi => (Array.getElem?_eq_some_iff.1 hi).1
    refine ⟨h1, v, (hb.block b (lt _ _ h2)).trans h2, ⟨h3.1, ?_⟩, h4⟩
    rcases h3.2 with h | ⟨g, cap, cur, h5, h6, h7, h8⟩
    · exact .inl h
    · exact .inr ⟨g, cap, cur, h5, h6, (hb.block g (lt _ _ h7)).trans h7, h8⟩
  exact h.elim (fun x => .inl (k _ x)) (fun x => .inr (k _ x))
theorem add_mk (b j : Nat) : (⟨b, 0, none⟩ : Addr).add j = ⟨b, j, none⟩ := by unfold Addr.add; split <;> simp_all
theorem heap_new (w : World) (o : Obj) : (w.alloc o).heap[w.heap.size]? = some o := by unfold World.alloc; exact Array.getElem?_push_size
theorem isBuilder_lt {T e : TypeId} {B b : Nat} {bs : List Value} {w : World} (h : Lib.IsBuilder T e B b bs w) : b < w.heap.size := h.elim (fun x => x.lt) (fun x => x.lt)
def pct_Encode.f (a0 : ByteArray) (a1 : Int) : Option (ByteArray × Int) :=
  if a1 = 0 ∨ 9 ≤ a1 then some (⟨#[]⟩, 5) else if 1 ≤ a1 ∧ a0.size ≤ 35184372088832 then some (⟨(encL a1 a0.data.toList).toArray⟩, 0) else none
def hexS : ByteArray := ⟨#[48, 49, 50, 51, 52, 53, 54, 55, 56, 57, 65, 66, 67, 68, 69, 70]⟩
theorem hexS_get (n : Nat) (h : n < 16) : (hexS[n]'h : UInt8) = hexU n := by
  have : ∀ m : Fin 16, hexS[m.val]'m.isLt = hexU m.val := by decide
  exact this ⟨n, h⟩
set_option maxHeartbeats 1000000 in
set_option maxRecDepth 100000 in
theorem enc_bad (t : ByteArray) (s : Int) (w : World) (h : s = 0 ∨ 9 ≤ s) :
    Calls Tryd.prog 45 #[.string t, .int .u8 s] w fun e w' => e = .returned (.tuple #[.string ⟨#[]⟩, .int .i64 5]) ∧ Below w.heap.size w w' := by
  by_cases h1 : s = 0
  · subst h1
    go_enter Tryd.func45, Tryd.ntmps45
    go_wp2
    go_ret2
    exact ⟨rfl, Below.refl _ _⟩
  · have hb : (s == 0) = false := beq_eq_false_iff_ne.mpr h1
    have hg : decide (9 ≤ s) = true := decide_eq_true (by omega)
    clear h
    go_enter Tryd.func45, Tryd.ntmps45
    go_wp2
    go_ret2
    exact ⟨rfl, Below.refl _ _⟩
set_option maxHeartbeats 2000000 in
set_option maxRecDepth 100000 in
theorem enc_good (t : ByteArray) (s : Int) (w : World) (h1 : 1 ≤ s) (h2 : s < 9) (ht : t.size ≤ 35184372088832) :
    Calls Tryd.prog 45 #[.string t, .int .u8 s] w fun e w' => e = .returned (.tuple #[.string ⟨(encL s t.data.toList).toArray⟩, .int .i64 0]) ∧ Below w.heap.size w w' := by
  have hb : (s == 0) = false := beq_eq_false_iff_ne.mpr (by omega)
  have hg : decide (9 ≤ s) = false := decide_eq_false (by omega)
  go_enter Tryd.func45, Tryd.ntmps45
  go_wp2
  go_loopw [17] (fun c wr => ∃ k : Nat, k ≤ t.size ∧ c = .int .i64 k ∧ Lib.IsBuilder 47 5 w.heap.size w.heap.size (Lib.byteCells (encL s (t.data.toList.take k))) wr ∧ Below w.heap.size w wr) (fun c _ => t.size - (intOf c).toNat)
  case atStart => exact ⟨0, Nat.zero_le _, rfl, .inl ⟨Nat.le_refl _, .slice none 0 0, heap_new _ _, World.ownsRow_nil _ _ _ _, by simp [Value.ownBlock]⟩, (Below.refl _ _).alloc (Nat.le_refl _) _⟩
  case round =>
    obtain ⟨k, hk, rfl, hB, hbel⟩ := hrel
    have hsz := hbel.size
    have HBB := Lib.hid hB
    have HBE := Lib.hid hbel
    clear hB hbel
    by_cases hlt : k < t.size
    · have hby : (t[k].toNat : Int) < 256 := by have := t[k].toNat_lt; omega
      have hts := take_snoc t k hlt
      have HN : Hid (encL s (t.data.toList.take (k + 1)) = encL s (t.data.toList.take k) ++ encByte s t[k]) := by rw [hts, encL_append, encL_one]; rfl
      have hlen : (encL s (t.data.toList.take k)).length ≤ 3 * k := Nat.le_trans (encL_length _ _) (Nat.mul_le_mul_left 3 (List.length_take_le _ _))
      clear hts
      by_cases hin : inB s (t[k].toNat : Int) = true
      · have HE := Lib.hid (show encByte s t[k] = [37, hexU (t[k].toNat / 16), hexU (t[k].toNat % 16)] by unfold encByte; rw [if_pos hin])
        have HI := Lib.hid hin
        clear hin
        go_wp2_with (go_at_call 62; refine (in_calls _ _ _).mono ?_; rintro e w1 ⟨rfl, hb1⟩; rw [HI.out])
        go_wp2_with fail
        have hB1 := isBuilder_below HBB.out hb1
        have hsz1 := hb1.size
        have a15 : Go.bits .and .u8 (t[k].toNat : Int) 15 = (t[k].toNat : Int) % 16 := u8_and15 _ (by omega) hby
        have q0 : (0 : Int) ≤ (t[k].toNat : Int) / 16 := by omega
        have q1 : (t[k].toNat : Int) / 16 < 16 := by omega
        have r0 : (0 : Int) ≤ (t[k].toNat : Int) % 16 := by omega
        have r1 : (t[k].toNat : Int) % 16 < 16 := by omega
        have X1 := Lib.hid (hexS_get (t[k].toNat / 16) (by omega))
        have X2 := Lib.hid (hexS_get (t[k].toNat % 16) (by omega))
        go_still_tail 6, (by kernel_rfl)
        change wpList _ _ _ _ _ w1.drew
        have hBd : Lib.IsBuilder 47 5 w.heap.size w.heap.size (Lib.byteCells (encL s (t.data.toList.take k))) w1.drew := hB1
        have hbd : Below w.heap.size w w1.drew := (HBE.out.trans (hb1.mono (by omega))).drew
        have hsd : wr.heap.size ≤ w1.drew.heap.size := hsz1
        clear hB1 hsz1
        generalize w1.drew = w2 at *
        go_wp2_with fail
        have hlt2 := isBuilder_lt hBd
        refine (Tryd.bld_write w.heap.size w.heap.size _ ⟨w2.heap.size, 0, none⟩ 3 3 (Lib.byteCells [37, hexU (t[k].toNat / 16), hexU (t[k].toNat % 16)]) _ (isBuilder_below hBd ((Below.refl _ _).alloc (Nat.le_refl _) _)) rfl ?_ (Nat.ne_of_gt hlt2) ?_ ?_ ?_).mono ?_
        · intro j u hj
          rw [add_mk, Lib.cell_of_heap (heap_new _ _), ← hj, ← X1.out, ← X2.out]
          match j with
          | 0 => rfl
          | 1 => rfl
          | 2 => rfl
          | _ + 3 => rfl
        · intro u hu; simp [Lib.byteCells] at hu; rcases hu with rfl | rfl | rfl <;> rfl
        · simp [Lib.byteCells]; omega
        · simp only [World.size_alloc]; omega
        rintro e w3 ⟨rfl, hB3, hb3⟩
        go_wp2
        have hbe : Below w.heap.size w w3 := (hbd.alloc (by omega) _).trans hb3
        go_roundw
        case rel => exact ⟨k + 1, by omega, by go_num, by rw [HN.out, HE.out]; simpa [Lib.byteCells] using hB3, hbe⟩
        case measure => simp [intOf]; omega
      · replace hin := Bool.eq_false_iff.mpr hin
        have HE := Lib.hid (show encByte s t[k] = [t[k]] by unfold encByte; rw [hin]; rfl)
        have HI := Lib.hid hin
        clear hin
        go_wp2_with (go_at_call 62; refine (in_calls _ _ _).mono ?_; rintro e w1 ⟨rfl, hb1⟩; rw [HI.out])
        go_wp2_with fail
        have hB1 := isBuilder_below HBB.out hb1
        have hsz1 := hb1.size
        go_wp2_with (go_at_call 26; refine (Tryd.bld_writeByte _ _ _ _ _ hB1 (by simp [Lib.byteCells]; omega) (by omega)).mono ?_; rintro e w2 ⟨rfl, hB2, hb2⟩)
        exact ⟨⟨k + 1, by omega, by go_num, by rw [HN.out, HE.out]; simpa [Lib.byteCells] using hB2, HBE.out.trans ((hb1.mono (by omega)).trans hb2)⟩, by simp [intOf]; omega⟩
    · have hge : decide (k < t.size) = false := decide_eq_false hlt
      have HF := Lib.hid (show t.data.toList.take k = t.data.toList by rw [show k = t.size by omega]; exact take_size t)
      go_wp2_with (go_at_call 28; refine (Tryd.bld_string _ _ _ _ HBB.out (by omega)).mono ?_; rintro e w2 ⟨rfl, hb2⟩)
      go_ret2
      exact ⟨by rw [HF.out]; rfl, HBE.out.trans hb2⟩
theorem pct_Encode.calls (a0 : ByteArray) (a1 : Int) (r1 : ByteArray) (r2 : Int) (w : World) (h : pct_Encode.f a0 a1 = some (r1, r2)) :
    Calls Tryd.prog 45 #[.string a0, .int .u8 a1] w fun e w' => e = .returned (.tuple #[.string r1, .int .i64 r2]) ∧ Below w.heap.size w w' := by
  unfold pct_Encode.f at h
  by_cases c : a1 = 0 ∨ 9 ≤ a1
  · rw [if_pos c] at h
    obtain ⟨rfl, rfl⟩ := Prod.mk.inj (Option.some.inj h)
    exact enc_bad a0 a1 w c
  · rw [if_neg c] at h
    by_cases d : 1 ≤ a1 ∧ a0.size ≤ 35184372088832
    · rw [if_pos d] at h
      obtain ⟨rfl, rfl⟩ := Prod.mk.inj (Option.some.inj h)
      exact enc_good a0 a1 w d.1 (by omega) d.2
    · rw [if_neg d] at h; cases h
end Go.Proofs.YtbcbmmlpgdndpaaDoor.Q
