/- addr.V6: an address of eight pieces, as it is read. -/
import Derived.Test.YtkabhnbjjnjdhaaDoorSAPcs
import Derived.Test.YtkabhnbjjnjdhaaDoorSAArr
import Derived.Test.YtkabhnbjjnjdhaaDoorSSCut
import Derived.Test.YtkabhnbjjnjdhaaDoorSCopy
set_option linter.unusedSimpArgs false
set_option linter.unusedVariables false
namespace Go.Proofs.YtkabhnbjjnjdhaaDoor.Q
open Go.RowKit Go.Proofs.YtkabhnbjjnjdhaaDoorW.PrintWords Go.Proofs.YtkabhnbjjnjdhaaDoorW.PrintLast Go.Proofs.YtkabhnbjjnjdhaaDoorW.PrintMore Go.Proofs.YtkabhnbjjnjdhaaDoor.Ad
def v6n (o : Option (List Nat)) (i : Nat) : Int := ((o.getD (List.replicate 8 0)).getD i 0 : Nat)
def v6e (o : Option (List Nat)) : Int := if o.isSome then 0 else 17
def v6M : Bool → Option (List Nat) → Option (List Nat) → Option (List Nat)
  | true, some p, some q => if p.length + q.length ≤ 7 then some (p ++ List.replicate (8 - p.length - q.length) 0 ++ q) else none
  | false, some p, some q => if p.length = 8 ∧ q.length = 0 then some (p ++ List.replicate (8 - p.length - q.length) 0 ++ q) else none
  | _, _, _ => none
theorem v6_M (l : List UInt8) : v6L l = v6M (Lib.cut l [58, 58]).2.2 (pcsL (!(Lib.cut l [58, 58]).2.2) (Lib.cut l [58, 58]).1) (pcsL true (Lib.cut l [58, 58]).2.1) := by
  unfold v6L
  by_cases h : 0 ≤ Lib.index l [58, 58]
  · have : (Lib.cut l [58, 58]).2.2 = true := by unfold Lib.cut; rw [if_pos h]
    rw [this, if_pos rfl]
    show _ = v6M true (pcsL false _) _
    cases pcsL false (Lib.cut l [58, 58]).1 <;> cases pcsL true (Lib.cut l [58, 58]).2.1 <;> rfl
  · have : Lib.cut l [58, 58] = (l, [], false) := by unfold Lib.cut; rw [if_neg h]
    rw [this]
    show (if (false = true) then _ else (match pcsL true l with | some a => if a.length = 8 then some a else none | none => none)) = v6M false (pcsL true l) (some [])
    rw [if_neg (by decide)]
    cases pcsL true l with
    | none => rfl
    | some p =>
      show (if p.length = 8 then some p else none) = if p.length = 8 ∧ ([] : List Nat).length = 0 then some (p ++ List.replicate (8 - p.length - ([] : List Nat).length) 0 ++ []) else none
      by_cases h8 : p.length = 8
      · rw [if_pos h8, if_pos ⟨h8, rfl⟩, h8]; simp
      · rw [if_neg h8, if_neg (fun h => h8 h.1)]
theorem alloc3 (w : World) (o1 o2 o3 : Obj) : (((w.alloc o1).alloc o2).alloc o3).heap[w.heap.size]? = some o1 ∧ (((w.alloc o1).alloc o2).alloc o3).heap[w.heap.size + 1]? = some o2 ∧ (((w.alloc o1).alloc o2).alloc o3).heap[w.heap.size + 2]? = some o3 ∧ (((w.alloc o1).alloc o2).alloc o3).heap.size = w.heap.size + 3 := by
  have h : (((w.alloc o1).alloc o2).alloc o3).heap = ((w.heap.push o1).push o2).push o3 := rfl
  rw [h]
  refine ⟨?_, ?_, ?_, ?_⟩
  · rw [Array.getElem?_push, if_neg (by simp; omega), Array.getElem?_push, if_neg (by simp), Array.getElem?_push, if_pos rfl]
  · rw [Array.getElem?_push, if_neg (by simp), Array.getElem?_push, if_pos (by simp)]
  · rw [Array.getElem?_push, if_pos (by simp)]
  · simp
theorem v6_behind (l : List UInt8) (h : (Lib.cut l [58, 58]).2.2 = false) : (Lib.cut l [58, 58]).2.1 = [] := by
  unfold Lib.cut at h ⊢
  split
  · rename_i h0; rw [if_pos h0] at h; cases h
  · rfl
theorem intAt {w : World} {A : Option Addr} {n : Nat} {xs : List Int} (h : Kd.C (Kd.int .u16) w A n xs) (hl : xs.length = n) (hn : 0 < n) : ∃ ad, A = some ad ∧ ∀ j v, (xs.map (Value.int .u16))[j]? = some v → w.cell? (ad.add j) = some v := by
  obtain ⟨ad, cs, hA, hcl, hK, hcc⟩ := Kd.C_get h (0 : Int) 0 (by omega) (by omega)
  refine ⟨ad, hA, fun j v hj => ?_⟩
  have hjl : j < xs.length := by have := (List.getElem?_eq_some_iff.1 hj).1; rwa [List.length_map] at this
  obtain ⟨ad', cs', hA', hcl', hK', hcc'⟩ := Kd.C_get h (0 : Int) (j : Int) (by omega) (by omega)
  obtain rfl : ad = ad' := Option.some.inj (hA.symm.trans hA')
  rw [Int.toNat_natCast] at hK' hcc'
  have hcs : cs' = [.int .u16 (xs.getD j 0)] := hK'
  subst hcs
  have := hcc' 0 _ rfl
  rw [show j * (Kd.int .u16).sz + 0 = j from by show j * 1 + 0 = j; omega] at this
  rw [this]
  rw [List.getElem?_map, List.getElem?_eq_getElem hjl] at hj
  rw [List.getD_eq_getElem?_getD, List.getElem?_eq_getElem hjl]
  exact hj
def enc16 (x : Nat) : Value := .int .u16 (x : Int)
theorem enc_row (l : List Nat) : (l.map fun x : Nat => (x : Int)).map (Value.int .u16) = l.map enc16 := by rw [List.map_map]; rfl
theorem splice2 (p q : List Nat) (h : p.length + q.length ≤ 8) : Go.splice (Go.splice ((List.replicate 8 0).map enc16) 0 (p.map enc16)) (8 - q.length) (q.map enc16) = (p ++ List.replicate (8 - p.length - q.length) 0 ++ q).map enc16 := by
  have e1 : Go.splice ((List.replicate 8 0).map enc16) 0 (p.map enc16) = (p ++ List.replicate (8 - p.length) 0).map enc16 := by
    unfold Go.splice
    rw [List.take_zero, List.nil_append, List.length_map, Nat.zero_add, ← List.map_drop, List.drop_replicate, List.map_append]
  rw [e1]
  unfold Go.splice
  rw [← List.map_take, ← List.map_drop, List.length_map, ← List.map_append, ← List.map_append]
  congr 1
  rw [List.drop_of_length_le (by simp; omega), List.append_nil, List.take_append, List.take_of_length_le (by omega), List.take_replicate, show min (8 - q.length - p.length) (8 - p.length) = 8 - p.length - q.length from by omega]
theorem v6_cells (l : List Nat) (h : l.length = 8) : (l.map enc16).toArray = #[.int .u16 (v6n (some l) 0), .int .u16 (v6n (some l) 1), .int .u16 (v6n (some l) 2), .int .u16 (v6n (some l) 3), .int .u16 (v6n (some l) 4), .int .u16 (v6n (some l) 5), .int .u16 (v6n (some l) 6), .int .u16 (v6n (some l) 7)] := by
  match l, h with
  | [a, b, c, d, e, f, g, i], _ => rfl
theorem pcsF_len (e : Bool) : ∀ (ps : List (List UInt8)) (r : List Nat), pcsF e ps = some r → r.length ≤ ps.length + 1
  | [], r, h => by unfold pcsF at h; obtain rfl := Option.some.inj h; simp
  | w :: ws, r, h => by
    unfold pcsF at h
    split at h
    · obtain rfl := Option.some.inj h; simp
    · split at h
      · rename_i n l h1 h2
        obtain rfl := Option.some.inj h
        have := pcsF_len e ws l h2
        simp; omega
      · cases h
theorem pcsL_len {e : Bool} {l : List UInt8} {r : List Nat} (h : pcsL e l = some r) : r.length ≤ l.length + 2 := by
  unfold pcsL at h
  split at h
  · obtain rfl := Option.some.inj h; simp
  · have := pcsF_len e _ _ h
    have := parts_len 58 l
    omega
theorem R_far_from {α : Type} {d : Kd α} {e base : Nat} {w : World} {ok : Nat → Prop} {A : Option Addr} {n c : Nat} {xs : List α} (h : d.R e w base ok (.slice A n c) xs) : ∀ ad, A = some ad → base ≤ ad.block := by
  intro ad e'
  obtain ⟨_, inner, ho, _⟩ := h
  rcases ho.2 with ⟨he, _⟩ | ⟨g, cap, cur, he, hg, _⟩
  · injection he with h1; rw [e'] at h1; cases h1
  · injection he with h1; rw [e'] at h1; have := Option.some.inj h1; rw [this]; exact hg
set_option maxRecDepth 100000 in
set_option maxHeartbeats 16000000 in
theorem v6_calls (s : ByteArray) (hs : s.size ≤ 1000000000) (w : World) (hT : UTabs w) :
    Calls Tryd.prog 12 #[.string s] w fun e w' => e = .returned (.tuple #[.agg #[.int .u16 (v6n (v6L s.data.toList) 0), .int .u16 (v6n (v6L s.data.toList) 1), .int .u16 (v6n (v6L s.data.toList) 2), .int .u16 (v6n (v6L s.data.toList) 3), .int .u16 (v6n (v6L s.data.toList) 4), .int .u16 (v6n (v6L s.data.toList) 5), .int .u16 (v6n (v6L s.data.toList) 6), .int .u16 (v6n (v6L s.data.toList) 7)], .int .i64 (v6e (v6L s.data.toList))]) ∧ Below w.heap.size w w' := by
  have e27 : ∀ args w, (callFunc 27 args).run Tryd.prog w = .ok (.enter 27 args) w := enters_of Tryd.func27 (by kernel_rfl) rfl
  have e28 : ∀ args w, (callFunc 28 args).run Tryd.prog w = .ok (.enter 28 args) w := enters_of Tryd.func28 (by kernel_rfl) rfl
  have hM := v6_M s.data.toList
  have hbe := v6_behind s.data.toList
  have hcut := fun W hTW => strings_Cut.calls s ⟨#[58, 58]⟩ _ _ _ W hTW (if_pos (by omega))
  have hcl : ((Lib.cut s.data.toList [58, 58]).1).length ≤ s.size ∧ ((Lib.cut s.data.toList [58, 58]).2.1).length ≤ s.size := by
    rw [Lib.size_eq]
    unfold Lib.cut
    split
    · exact ⟨by rw [List.length_take]; omega, by rw [List.length_drop]; omega⟩
    · exact ⟨Nat.le_refl _, Nat.zero_le _⟩
  rw [show (⟨#[58, 58]⟩ : ByteArray).data.toList = [58, 58] from rfl] at hcut
  generalize v6L s.data.toList = o at *
  generalize Lib.cut s.data.toList [58, 58] = ct at *
  obtain ⟨la, lb, g⟩ := ct
  obtain ⟨hla, hlb⟩ := hcl
  have hp1 := fun W hTW => pieces_calls ⟨la.toArray⟩ (!g) (by rw [Lib.size_eq]; show la.length ≤ _; simp at hla; omega) W hTW
  have hp2 := fun W hTW => pieces_calls ⟨lb.toArray⟩ true (by rw [Lib.size_eq]; show lb.length ≤ _; simp at hlb; omega) W hTW
  simp only at hM hbe hcut
  rw [show (⟨la.toArray⟩ : ByteArray).data.toList = la from rfl] at hp1
  rw [show (⟨lb.toArray⟩ : ByteArray).data.toList = lb from rfl] at hp2
  have hq : g = false → pcsL true lb = some [] := fun h => by rw [hbe h]; exact if_pos rfl
  have hl1 : ∀ r, pcsL (!g) la = some r → r.length ≤ 1000000002 := fun r h => by have := pcsL_len h; simp at hla; omega
  have hl2 : ∀ r, pcsL true lb = some r → r.length ≤ 1000000002 := fun r h => by have := pcsL_len h; simp at hlb; omega
  generalize pcsL (!g) la = o1 at *
  generalize pcsL true lb = o2 at *
  generalize (⟨la.toArray⟩ : ByteArray) = sa at *
  generalize (⟨lb.toArray⟩ : ByteArray) = sb at *
  have HT := Lib.hid hT
  have HM := Lib.hid hM
  have HG := Lib.hid hq
  have HL1 := Lib.hid hl1
  have HL2 := Lib.hid hl2
  clear hl1 hl2
  clear hT hM hbe hla hlb hq la lb hs
  obtain ⟨H, hH⟩ : ∃ H, w.heap.size = H := ⟨_, rfl⟩
  have hb0 : Below H w (((w.alloc (.cells #[.int .u16 0, .int .u16 0, .int .u16 0, .int .u16 0, .int .u16 0, .int .u16 0, .int .u16 0, .int .u16 0] 27)).alloc (.cells #[.int .u16 0, .int .u16 0, .int .u16 0, .int .u16 0, .int .u16 0, .int .u16 0, .int .u16 0, .int .u16 0] 27)).alloc (.cells #[.int .u16 0, .int .u16 0, .int .u16 0, .int .u16 0, .int .u16 0, .int .u16 0, .int .u16 0, .int .u16 0] 27)) := by
    rw [← hH]
    exact (((Below.refl _ w).alloc (Nat.le_refl _) _).alloc (by simp) _).alloc (by simp; omega) _
  obtain ⟨ha1, ha2, ha3, ha4⟩ := alloc3 w (.cells #[.int .u16 0, .int .u16 0, .int .u16 0, .int .u16 0, .int .u16 0, .int .u16 0, .int .u16 0, .int .u16 0] 27) (.cells #[.int .u16 0, .int .u16 0, .int .u16 0, .int .u16 0, .int .u16 0, .int .u16 0, .int .u16 0, .int .u16 0] 27) (.cells #[.int .u16 0, .int .u16 0, .int .u16 0, .int .u16 0, .int .u16 0, .int .u16 0, .int .u16 0, .int .u16 0] 27)
  rw [hH] at ha1 ha2 ha3 ha4
  have HA := Lib.hid (And.intro ha1 (And.intro ha2 (And.intro ha3 ha4)))
  clear ha1 ha2 ha3 ha4
  have HB0 := Lib.hid hb0
  have HH := Lib.hid hH
  clear hb0 hH
  go_enter Tryd.func12, Tryd.ntmps12
  go_wp2_with fail
  refine (hcut _ (HT.out.below (by rw [HH.out]; exact HB0.out))).mono ?_
  rintro e w1 ⟨rfl, hb1⟩
  have HB1 := Lib.hid (HB0.out.trans (hb1.mono (by rw [HA.out.2.2.2]; omega)))
  have HK := Lib.hid (show w1.heap[H]? = some (.cells #[.int .u16 0, .int .u16 0, .int .u16 0, .int .u16 0, .int .u16 0, .int .u16 0, .int .u16 0, .int .u16 0] 27 (0, 0)) ∧ w1.heap[H + 1]? = some (.cells #[.int .u16 0, .int .u16 0, .int .u16 0, .int .u16 0, .int .u16 0, .int .u16 0, .int .u16 0, .int .u16 0] 27 (0, 0)) ∧ w1.heap[H + 2]? = some (.cells #[.int .u16 0, .int .u16 0, .int .u16 0, .int .u16 0, .int .u16 0, .int .u16 0, .int .u16 0, .int .u16 0] 27 (0, 0)) from ⟨(hb1.block _ (by rw [HA.out.2.2.2]; omega)).trans HA.out.1, (hb1.block _ (by rw [HA.out.2.2.2]; omega)).trans HA.out.2.1, (hb1.block _ (by rw [HA.out.2.2.2]; omega)).trans HA.out.2.2.1⟩)
  have HZ1 := Lib.hid (show H + 3 ≤ w1.heap.size from by have := hb1.size; rw [HA.out.2.2.2] at this; exact this)
  clear hb1 hcut HA HB0
  have hp1' := hp1 w1 (HT.out.below (by rw [HH.out]; exact HB1.out))
  clear hp1
  go_wp2_with fail
  refine hp1'.mono ?_
  rintro e w2 ⟨v1, rfl, hR1, hb2⟩
  have HB2 := Lib.hid (HB1.out.trans (hb2.mono (by have := HZ1.out; omega)))
  have HK2 := Lib.hid (show w2.heap[H]? = some (.cells #[.int .u16 0, .int .u16 0, .int .u16 0, .int .u16 0, .int .u16 0, .int .u16 0, .int .u16 0, .int .u16 0] 27 (0, 0)) ∧ w2.heap[H + 1]? = some (.cells #[.int .u16 0, .int .u16 0, .int .u16 0, .int .u16 0, .int .u16 0, .int .u16 0, .int .u16 0, .int .u16 0] 27 (0, 0)) ∧ w2.heap[H + 2]? = some (.cells #[.int .u16 0, .int .u16 0, .int .u16 0, .int .u16 0, .int .u16 0, .int .u16 0, .int .u16 0, .int .u16 0] 27 (0, 0)) from ⟨(hb2.block _ (by have := HZ1.out; omega)).trans HK.out.1, (hb2.block _ (by have := HZ1.out; omega)).trans HK.out.2.1, (hb2.block _ (by have := HZ1.out; omega)).trans HK.out.2.2⟩)
  have HZ2 := Lib.hid (show H + 3 ≤ w2.heap.size from by have := hb2.size; have := HZ1.out; omega)
  have HR10 := Lib.hid (Kd.R_lower hR1 HZ1.out)
  clear hb2 hp1' hR1 HK HB1
  have hp2' := hp2 w2 (HT.out.below (by rw [HH.out]; exact HB2.out))
  clear hp2
  go_wp2_with fail
  refine hp2'.mono ?_
  rintro e w3 ⟨v2, rfl, hR2, hb3⟩
  have HB := Lib.hid (show Below w.heap.size w w3 from by rw [HH.out]; exact HB2.out.trans (hb3.mono (by have := HZ2.out; omega)))
  have HR := Lib.hid (show w3.heap[w.heap.size]? = some (.cells #[.int .u16 0, .int .u16 0, .int .u16 0, .int .u16 0, .int .u16 0, .int .u16 0, .int .u16 0, .int .u16 0] 27 (0, 0)) from by rw [HH.out]; exact (hb3.block _ (by have := HZ2.out; omega)).trans HK2.out.1)
  have HN := Lib.hid (show w3.heap[w.heap.size + 1]? = some (.cells #[.int .u16 0, .int .u16 0, .int .u16 0, .int .u16 0, .int .u16 0, .int .u16 0, .int .u16 0, .int .u16 0] 27 (0, 0)) from by rw [HH.out]; exact (hb3.block _ (by have := HZ2.out; omega)).trans HK2.out.2.1)
  have HO := Lib.hid (show w3.heap[w.heap.size + 1 + 1]? = some (.cells #[.int .u16 0, .int .u16 0, .int .u16 0, .int .u16 0, .int .u16 0, .int .u16 0, .int .u16 0, .int .u16 0] 27 (0, 0)) from by rw [HH.out]; exact (hb3.block _ (by have := HZ2.out; omega)).trans HK2.out.2.2)
  have HR1 := Lib.hid (Kd.R_below HR10.out hb3)
  have HR2 := Lib.hid (Kd.R_lower hR2 HZ2.out)
  clear hb3 hp2' hR2 HK2 HB2 HR10 HZ1 HZ2
  rw [← HH.out] at HR1 HR2
  clear HH
  cases o1 with
  | none =>
    have HQ := Lib.hid (show o = none from by rw [HM.out]; cases g <;> rfl)
    go_upto_region 6 with (fail)
    refine acopy (fn := Tryd.f12) rfl HN.out HR.out (by omega) HB.out (Nat.le_refl _) rfl rfl (show 3 < 38 by decide) (show 38 < 69 by decide) ?_
    intro a' w' hd hres hb
    try dsimp only [Exit.then, Exit.inBlock]
    refine (by assumption : ∀ (a : Act) (w : World), Code.wp _ Code.ret _ a w → _) _ _ ?_
    refine hwp_ret ?_
    try dsimp only [Exit.then, Exit.inBlock]
    exact bodyPost_ret hres hd ⟨by rw [HQ.out]; rfl, hb⟩
  | some p =>
    cases o2 with
    | none =>
      have HQ := Lib.hid (show o = none from by rw [HM.out]; cases g <;> rfl)
      go_upto_region 6 with (fail)
      refine acopy (fn := Tryd.f12) rfl HN.out HR.out (by omega) HB.out (Nat.le_refl _) rfl rfl (show 3 < 38 by decide) (show 38 < 69 by decide) ?_
      intro a' w' hd hres hb
      try dsimp only [Exit.then, Exit.inBlock]
      refine (by assumption : ∀ (a : Act) (w : World), Code.wp _ Code.ret _ a w → _) _ _ ?_
      refine hwp_ret ?_
      try dsimp only [Exit.then, Exit.inBlock]
      exact bodyPost_ret hres hd ⟨by rw [HQ.out]; rfl, hb⟩
    | some q =>
      have hlp : (pcsRow (some p)).length = p.length := List.length_map _
      have hlq : (pcsRow (some q)).length = q.length := List.length_map _
      obtain ⟨A1, c1, rfl, hle1, hC1⟩ := Kd.R_reads HR1.out
      obtain ⟨A2, c2, rfl, hle2, hC2⟩ := Kd.R_reads HR2.out
      rw [hlp] at hC1 hle1 ⊢
      rw [hlq] at hC2 hle2 ⊢
      have hn2 := R_far_from HR2.out
      obtain ⟨np, hnp⟩ : ∃ np, np = p.length := ⟨_, rfl⟩
      obtain ⟨nq, hnq⟩ : ∃ nq, nq = q.length := ⟨_, rfl⟩
      rw [← hnp] at hC1 hle1 hlp ⊢
      rw [← hnq] at hC2 hle2 hlq ⊢
      have hs1 : 0 < np → ∃ ad, A1 = some ad ∧ ∀ j v, (p.map enc16)[j]? = some v → w3.cell? (ad.add j) = some v := fun h => by rw [← enc_row p]; exact intAt hC1 hlp h
      have hs2 : 0 < nq → ∃ ad, A2 = some ad ∧ w.heap.size + 3 ≤ ad.block ∧ ∀ j v, (q.map enc16)[j]? = some v → w3.cell? (ad.add j) = some v := fun h => by
        rw [← enc_row q]
        obtain ⟨ad, h1, h2⟩ := intAt hC2 hlq h
        exact ⟨ad, h1, hn2 ad h1, h2⟩
      have HS1 := Lib.hid hs1
      have HS2 := Lib.hid hs2
      have hb1 : np ≤ 1000000002 := by rw [hnp]; exact HL1.out p rfl
      have hb2 : nq ≤ 1000000002 := by rw [hnq]; exact HL2.out q rfl
      have HNP := Lib.hid hnp
      have HNQ := Lib.hid hnq
      clear hs1 hs2 hC1 hC2 hn2 hnp hnq hlp hlq HR1 HR2
      have hcase : (g = true ∧ ¬ np + nq ≤ 7) ∨ (g = false ∧ ¬ np = 8) ∨ ((g = true ∧ np + nq ≤ 7) ∨ (g = false ∧ np = 8 ∧ nq = 0)) := by
        cases g with
        | true => by_cases h : np + nq ≤ 7
                  · exact .inr (.inr (.inl ⟨rfl, h⟩))
                  · exact .inl ⟨rfl, h⟩
        | false => by_cases h : np = 8
                   · refine .inr (.inr (.inr ⟨rfl, h, ?_⟩))
                     have := HG.out rfl
                     have := Option.some.inj this
                     rw [HNQ.out, this]; rfl
                   · exact .inr (.inl ⟨rfl, h⟩)
      rcases hcase with ⟨rfl, h7⟩ | ⟨rfl, h8⟩ | hgood
      · have HQ := Lib.hid (show o = none from by rw [HM.out]; exact if_neg (by rw [← HNP.out, ← HNQ.out]; exact h7))
        have h7z : (7 : Int) < (np : Int) + (nq : Int) := by omega
        go_upto_region 8 with (fail)
        refine acopy (fn := Tryd.f12) rfl HN.out HR.out (by omega) HB.out (Nat.le_refl _) rfl rfl (show 3 < 58 by decide) (show 58 < 69 by decide) ?_
        intro a' w' hd hres hb
        try dsimp only [Exit.then, Exit.inBlock]
        refine (by assumption : ∀ (a : Act) (w : World), Code.wp _ Code.ret _ a w → _) _ _ ?_
        refine hwp_ret ?_
        try dsimp only [Exit.then, Exit.inBlock]
        exact bodyPost_ret hres hd ⟨by rw [HQ.out]; rfl, hb⟩
      · have HQ := Lib.hid (show o = none from by rw [HM.out]; exact if_neg (fun h => h8 (by rw [HNP.out]; exact h.1)))
        have h8z : ((np : Int) == 8) = false := by rw [beq_eq_false_iff_ne]; omega
        have h8y : ((np : Int) != 8) = true := by rw [bne_iff_ne]; omega
        go_upto_region 8 with (fail)
        refine acopy (fn := Tryd.f12) rfl HN.out HR.out (by omega) HB.out (Nat.le_refl _) rfl rfl (show 3 < 58 by decide) (show 58 < 69 by decide) ?_
        intro a' w' hd hres hb
        try dsimp only [Exit.then, Exit.inBlock]
        refine (by assumption : ∀ (a : Act) (w : World), Code.wp _ Code.ret _ a w → _) _ _ ?_
        refine hwp_ret ?_
        try dsimp only [Exit.then, Exit.inBlock]
        exact bodyPost_ret hres hd ⟨by rw [HQ.out]; rfl, hb⟩
      · have hlen : np + nq ≤ 8 := by rcases hgood with h | h <;> omega
        have hl8 : (p ++ List.replicate (8 - p.length - q.length) 0 ++ q).length = 8 := by rw [← HNP.out, ← HNQ.out]; simp; have := HNP.out; have := HNQ.out; omega
        have HQ := Lib.hid (show o = some (p ++ List.replicate (8 - p.length - q.length) 0 ++ q) from by
          rw [HM.out]
          rcases hgood with ⟨rfl, h⟩ | ⟨rfl, h, h'⟩
          · exact if_pos (by rw [← HNP.out, ← HNQ.out]; exact h)
          · exact if_pos ⟨by rw [← HNP.out]; exact h, by rw [← HNQ.out]; exact h'⟩)
        have HL8 := Lib.hid hl8
        clear hl8 HM HG
        have hal : Tryd.prog.arrayLen 27 = 8 := by kernel_rfl
        have hsl : ∀ W, (Instr.sliceAt 27 (.pointer (some ⟨w.heap.size + 1 + 1, 0, none⟩)) (some (.int .i64 (8 - (nq : Int)))) none none).run Tryd.prog W = .ok (.slice (some ⟨w.heap.size + 1 + 1, if nq = 0 then 0 else 8 - nq, none⟩) nq nq) W := fun W => by
          rw [run_sliceAt_array_l W 27 ⟨w.heap.size + 1 + 1, 0, none⟩ (by kernel_rfl) .i64 (8 - (nq : Int)) (by omega) (by rw [hal]; omega)]
          go_simp
          by_cases hz : nq = 0
          · subst hz; exact ⟨by simp, by simp⟩
          · refine ⟨?_, by omega⟩
            rw [if_neg (by omega), if_neg hz]
        clear hal
        have hmk : ∀ w4, CopyDone w3 w4 (w.heap.size + 1 + 1) 0 ((List.replicate 8 0).map enc16) 27 (p.map enc16) → CopyOk w4 (some ⟨w.heap.size + 1 + 1, if nq = 0 then 0 else 8 - nq, none⟩) A2 nq nq (w.heap.size + 1 + 1) (8 - nq) (Go.splice ((List.replicate 8 0).map enc16) 0 (p.map enc16)) 27 (q.map enc16) := by
          intro w4 H4
          obtain ⟨h1, h2⟩ := H4
          have hnq := HNQ.out
          have hnp := HNP.out
          refine ⟨h1, by rw [List.length_map, ← hnq]; exact (Nat.min_self _).symm, fun h => ?_, ?_, fun v hv => ?_⟩
          · rw [List.length_map, ← hnq] at h
            rw [if_neg (by omega)]
            obtain ⟨ad, e1, e2, e3⟩ := HS2.out h
            refine ⟨rfl, ad, e1, fun j v hj => ?_⟩
            have h3 := e3 j v hj
            have hlt := World.block_lt_of_cell? w3 _ h3
            have hbl : (ad.add j).block = ad.block := by unfold Addr.add; split <;> rfl
            rw [World.cell?_of_block (w := w3) (h2.block _ hlt (by rw [hbl]; intro e; have := Option.some.inj e; omega))]
            exact h3
          · rw [length_splice _ _ _ (by simp; omega)]; simp; omega
          · obtain ⟨x, _, rfl⟩ := List.mem_map.1 hv; rfl
        have HMK := Lib.hid hmk
        have hc1 : CopyOk w3 (some ⟨w.heap.size + 1 + 1, 0, none⟩) A1 8 np (w.heap.size + 1 + 1) 0 ((List.replicate 8 0).map enc16) 27 (p.map enc16) := by
          have hnp := HNP.out
          refine ⟨HO.out, by rw [List.length_map, ← hnp]; exact (Nat.min_eq_left (by omega)).symm, fun h => ⟨rfl, HS1.out (by rw [List.length_map, ← hnp] at h; exact h)⟩, by simp; omega, fun v hv => ?_⟩
          obtain ⟨x, _, rfl⟩ := List.mem_map.1 hv; rfl
        clear hmk
        have hfin : ∀ w4 w5, CopyDone w3 w4 (w.heap.size + 1 + 1) 0 ((List.replicate 8 0).map enc16) 27 (p.map enc16) → CopyDone w4 w5 (w.heap.size + 1 + 1) (8 - nq) (Go.splice ((List.replicate 8 0).map enc16) 0 (p.map enc16)) 27 (q.map enc16) →
            Hid (w5.heap[w.heap.size + 1 + 1]? = some (.cells #[.int .u16 (v6n o 0), .int .u16 (v6n o 1), .int .u16 (v6n o 2), .int .u16 (v6n o 3), .int .u16 (v6n o 4), .int .u16 (v6n o 5), .int .u16 (v6n o 6), .int .u16 (v6n o 7)] 27 (0, 0)) ∧ w5.heap[w.heap.size]? = some (.cells #[.int .u16 0, .int .u16 0, .int .u16 0, .int .u16 0, .int .u16 0, .int .u16 0, .int .u16 0, .int .u16 0] 27 (0, 0)) ∧ Below w.heap.size w w5) := by
          intro w4 w5 H4 H5
          obtain ⟨h1, h2⟩ := H4
          obtain ⟨h3, h4⟩ := H5
          have hsz := h2.size
          have hlt : w.heap.size < w3.heap.size := (Array.getElem?_eq_some_iff.1 HR.out).1
          refine ⟨?_, ?_, (HB.out.grown h2 HB.out.size (fun k e => by have := Option.some.inj e; omega)).grown h4 (by omega) (fun k e => by have := Option.some.inj e; omega)⟩
          · rw [h3, HNQ.out, splice2 p q (by rw [← HNP.out, ← HNQ.out]; exact hlen), v6_cells _ HL8.out, HQ.out]
          · rw [h4.block _ (by omega) (fun e => by have := Option.some.inj e; omega), h2.block _ hlt (fun e => by have := Option.some.inj e; omega)]; exact HR.out
        have HFIN := Lib.hid hfin
        clear hfin
        have hcond : (g = true ∧ np + nq ≤ 7) ∨ (g = false ∧ np = 8 ∧ nq = 0) := hgood
        rcases hcond with ⟨rfl, h7⟩ | ⟨rfl, h8, h0⟩
        · go_upto_region 11 with (first | ((with_reducible refine gate_builtin (b := .copy) (xs := #[.tmp 59, .tmp 60]) rfl ?_); refine copy_far rfl (.tmp 59) (.tmp 60) 47 47 rfl 26 Tryd.underlying47 (by kernel_rfl) (some ⟨w.heap.size + 1 + 1, 0, none⟩) A1 8 8 np c1 rfl rfl (w.heap.size + 1 + 1) 0 ((List.replicate 8 0).map enc16) 27 (p.map enc16) hc1 ?_; intro w4 H4; have HC2 := HMK.out w4 H4; clear hc1) | ((with_reducible refine gate_builtin (b := .copy) (xs := #[.tmp 65, .tmp 66]) rfl ?_); refine copy_far rfl (.tmp 65) (.tmp 66) 47 47 rfl 26 Tryd.underlying47 (by kernel_rfl) (some ⟨w.heap.size + 1 + 1, if nq = 0 then 0 else 8 - nq, none⟩) A2 nq nq nq c2 rfl rfl (w.heap.size + 1 + 1) (8 - nq) (Go.splice ((List.replicate 8 0).map enc16) 0 (p.map enc16)) 27 (q.map enc16) HC2 ?_; intro w5 H5; have HF := HFIN.out w4 w5 H4 H5; clear HC2))
          obtain ⟨f1, f2, f3⟩ := HF.out
          refine acopy (fn := Tryd.f12) rfl f1 f2 (by omega) f3 (Nat.le_refl _) rfl rfl (show 3 < 68 by decide) (show 68 < 69 by decide) ?_
          intro a' w' hd hres hb
          try dsimp only [Exit.then, Exit.inBlock]
          refine (by assumption : ∀ (a : Act) (w : World), Code.wp _ Code.ret _ a w → _) _ _ ?_
          refine hwp_ret ?_
          try dsimp only [Exit.then, Exit.inBlock]
          exact bodyPost_ret hres hd ⟨by rw [show v6e o = 0 from by rw [HQ.out]; rfl], hb⟩
        · have h8z : ((np : Int) == 8) = true := by rw [beq_iff_eq]; omega
          have h8y : ((np : Int) != 8) = false := by rw [bne_eq_false_iff_eq]; omega
          clear h8 h0 hgood
          go_upto_region 11 with (first | ((with_reducible refine gate_builtin (b := .copy) (xs := #[.tmp 59, .tmp 60]) rfl ?_); refine copy_far rfl (.tmp 59) (.tmp 60) 47 47 rfl 26 Tryd.underlying47 (by kernel_rfl) (some ⟨w.heap.size + 1 + 1, 0, none⟩) A1 8 8 np c1 rfl rfl (w.heap.size + 1 + 1) 0 ((List.replicate 8 0).map enc16) 27 (p.map enc16) hc1 ?_; intro w4 H4; have HC2 := HMK.out w4 H4; clear hc1) | ((with_reducible refine gate_builtin (b := .copy) (xs := #[.tmp 65, .tmp 66]) rfl ?_); refine copy_far rfl (.tmp 65) (.tmp 66) 47 47 rfl 26 Tryd.underlying47 (by kernel_rfl) (some ⟨w.heap.size + 1 + 1, if nq = 0 then 0 else 8 - nq, none⟩) A2 nq nq nq c2 rfl rfl (w.heap.size + 1 + 1) (8 - nq) (Go.splice ((List.replicate 8 0).map enc16) 0 (p.map enc16)) 27 (q.map enc16) HC2 ?_; intro w5 H5; have HF := HFIN.out w4 w5 H4 H5; clear HC2))
          obtain ⟨f1, f2, f3⟩ := HF.out
          refine acopy (fn := Tryd.f12) rfl f1 f2 (by omega) f3 (Nat.le_refl _) rfl rfl (show 3 < 68 by decide) (show 68 < 69 by decide) ?_
          intro a' w' hd hres hb
          try dsimp only [Exit.then, Exit.inBlock]
          refine (by assumption : ∀ (a : Act) (w : World), Code.wp _ Code.ret _ a w → _) _ _ ?_
          refine hwp_ret ?_
          try dsimp only [Exit.then, Exit.inBlock]
          exact bodyPost_ret hres hd ⟨by rw [show v6e o = 0 from by rw [HQ.out]; rfl], hb⟩
def addr_V6.f (a0 : ByteArray) : Option (Int × Int × Int × Int × Int × Int × Int × Int × Int) := if a0.size ≤ 1000000000 then some (v6n (v6L a0.data.toList) 0, v6n (v6L a0.data.toList) 1, v6n (v6L a0.data.toList) 2, v6n (v6L a0.data.toList) 3, v6n (v6L a0.data.toList) 4, v6n (v6L a0.data.toList) 5, v6n (v6L a0.data.toList) 6, v6n (v6L a0.data.toList) 7, v6e (v6L a0.data.toList)) else none
theorem addr_V6.calls (a0 : ByteArray) (r1 r2 r3 r4 r5 r6 r7 r8 r9 : Int) (w : World) (hT : UTabs w) (h : addr_V6.f a0 = some (r1, r2, r3, r4, r5, r6, r7, r8, r9)) :
    Calls Tryd.prog 12 #[.string a0] w fun e w' => e = .returned (.tuple #[.agg #[.int .u16 r1, .int .u16 r2, .int .u16 r3, .int .u16 r4, .int .u16 r5, .int .u16 r6, .int .u16 r7, .int .u16 r8], .int .i64 r9]) ∧ Below w.heap.size w w' := by
  unfold addr_V6.f at h
  split at h
  · rename_i hs
    have e := Option.some.inj h
    simp only [Prod.mk.injEq] at e
    obtain ⟨rfl, rfl, rfl, rfl, rfl, rfl, rfl, rfl, rfl⟩ := e
    exact v6_calls a0 hs w hT
  · cases h
end Go.Proofs.YtkabhnbjjnjdhaaDoor.Q
