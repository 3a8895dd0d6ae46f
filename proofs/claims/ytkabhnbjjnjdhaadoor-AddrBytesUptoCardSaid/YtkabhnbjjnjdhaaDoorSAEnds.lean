/- addr.Ends: whether a text's last part is a number, or decimal digits alone. -/
import Derived.Test.YtkabhnbjjnjdhaaDoorSANum
import Derived.Test.YtkabhnbjjnjdhaaDoorSASplit
import Derived.Test.YtkabhnbjjnjdhaaDoorSAdP
import Derived.Test.YtkabhnbjjnjdhaaDoorSQaddrpartsA
set_option linter.unusedSimpArgs false
set_option linter.unusedVariables false
namespace Go.Proofs.YtkabhnbjjnjdhaaDoor.Q
open Go.RowKit Go.Proofs.YtkabhnbjjnjdhaaDoorW.PrintWords Go.Proofs.YtkabhnbjjnjdhaaDoorW.PrintLast Go.Proofs.YtkabhnbjjnjdhaaDoorW.PrintMore Go.Proofs.YtkabhnbjjnjdhaaDoor.Ad
theorem wrap64_of {x : Int} (h0 : -9223372036854775808 ≤ x) (h1 : x ≤ 9223372036854775807) : wrap64 x = x := by unfold wrap64; omega
/-- a text in a row of texts -/
theorem strAt {w : World} {A : Option Addr} {n : Nat} {xs : List ByteArray} (h : Kd.C Kd.string w A n xs) (hn : 0 < n) : ∃ b o, A = some ⟨b, o, none⟩ ∧ b < w.heap.size ∧ ∀ i : Nat, i < n → w.cell? ⟨b, o + i, none⟩ = some (.string (xs.getD i ByteArray.empty)) := by
  obtain ⟨ad, cs, hA, hcl, hK, hcc⟩ := Kd.C_get h ByteArray.empty 0 (by omega) (by omega)
  have hcells : ∀ i : Nat, i < n → w.cell? (ad.add i) = some (.string (xs.getD i ByteArray.empty)) := by
    intro i hi
    obtain ⟨ad', cs', hA', hcl', hK', hcc'⟩ := Kd.C_get h ByteArray.empty (i : Int) (by omega) (by omega)
    obtain rfl : ad = ad' := Option.some.inj (hA.symm.trans hA')
    rw [Int.toNat_natCast] at hK' hcc'
    have hcs : cs' = [.string (xs.getD i ByteArray.empty)] := hK'
    subst hcs
    have := hcc' 0 _ rfl
    rw [show i * Kd.string.sz + 0 = i from by show i * 1 + 0 = i; omega] at this
    exact this
  obtain ⟨b, o, sp⟩ := ad
  have h0 := hcells 0 hn
  have hsp : sp = none := by
    cases sp with
    | none => rfl
    | some q =>
      exfalso
      unfold World.cell? at h0
      split at h0
      · exact absurd h0 (by simp [Addr.add])
      · cases h0
  subst hsp
  have e : ∀ i, (⟨b, o, none⟩ : Addr).add i = ⟨b, o + i, none⟩ := fun i => by unfold Addr.add; split <;> simp_all
  refine ⟨b, o, hA, World.block_lt_of_cell? w _ ((e 0) ▸ h0), fun i hi => ?_⟩
  rw [← e]
  exact hcells i hi
/-- what stands between full stops, as it is split -/
def partsB (s : ByteArray) : List ByteArray := (partsD s.data.toList).map B
theorem partsB_ne (s : ByteArray) : partsB s ≠ [] := by
  unfold partsB partsD
  intro h
  exact cutLast_ne (parts_ne 46 _) (List.map_eq_nil_iff.1 h)
theorem parts_len (c : UInt8) : ∀ l : List UInt8, (parts c l).length ≤ l.length + 1
  | [] => Nat.le_refl _
  | b :: r => by
    have ih := parts_len c r
    unfold parts
    split
    · simp; exact ih
    · split
      · simp
      · rename_i p ps h; rw [h] at ih; simp at ih ⊢; omega
theorem parts_mem (c : UInt8) : ∀ (l : List UInt8), ∀ p ∈ parts c l, p.length ≤ l.length
  | [], p, h => by
    have : p = [] := by simpa [parts] using h
    subst this; exact Nat.le_refl _
  | b :: r, p, h => by
    have ih := parts_mem c r
    unfold parts at h
    split at h
    · rcases List.mem_cons.1 h with rfl | h
      · simp
      · have := ih p h; simp; omega
    · split at h
      · rw [List.mem_singleton] at h; subst h; simp
      · rename_i q ps hq
        rcases List.mem_cons.1 h with rfl | h
        · have := ih q (by rw [hq]; exact List.mem_cons_self); simp; omega
        · have := ih p (by rw [hq]; exact List.mem_cons_of_mem _ h); simp; omega
theorem partsD_mem {l p : List UInt8} (h : p ∈ partsD l) : p ∈ parts 46 l := by
  unfold partsD cutLast at h
  split at h
  · exact List.dropLast_subset _ h
  · exact h
theorem partsB_size {s p : ByteArray} (h : p ∈ partsB s) : p.size ≤ s.size := by
  unfold partsB at h
  obtain ⟨q, hq, rfl⟩ := List.mem_map.1 h
  have := parts_mem 46 _ q (partsD_mem hq)
  rw [show (B q).size = q.length from Lib.size_eq _, Lib.size_eq]; exact this
theorem parts_f {s : ByteArray} (hs : s.size ≤ 1000000000) : addr_parts.f s = some (partsB s) := by
  have hl := parts_len 46 s.data.toList
  rw [← Lib.size_eq] at hl
  have hne := parts_ne 46 s.data.toList
  unfold addr_parts.f strings_Split.f
  rw [if_pos ⟨rfl, by omega⟩]
  show Option.bind (some ((parts 46 s.data.toList).map B)) _ = _
  rw [Option.bind_some]
  simp only [List.length_map]
  have hw : ∀ h : 1 < (parts 46 s.data.toList).length, wrap64 (((parts 46 s.data.toList).length : Int) - 1) = (((parts 46 s.data.toList).length - 1 : Nat) : Int) := fun h => by rw [wrap64_of (by omega) (by omega)]; omega
  unfold partsB partsD cutLast
  by_cases h1 : 1 < (parts 46 s.data.toList).length
  · rw [if_pos (by omega), hw h1, if_pos (by omega), if_pos (by omega)]
    have hlast : (parts 46 s.data.toList).getLast? = some ((parts 46 s.data.toList).getLast hne) := List.getLast?_eq_some_getLast hne
    have hget : rdOf ByteArray.empty ((parts 46 s.data.toList).map B) (((parts 46 s.data.toList).length - 1 : Nat) : Int) = B ((parts 46 s.data.toList).getLast hne) := by
      unfold rdOf
      rw [Int.toNat_natCast, List.getD_eq_getElem?_getD, List.getElem?_map, ← List.getLast?_eq_getElem?, hlast]
      rfl
    rw [hget, hlast]
    have htl : (B ((parts 46 s.data.toList).getLast hne)).toList = (parts 46 s.data.toList).getLast hne := by rw [Go.ByteArray.toList_eq]; rfl
    rw [htl]
    by_cases he : (parts 46 s.data.toList).getLast hne = []
    · rw [if_pos he, if_pos (by omega), if_pos ⟨h1, by rw [he]⟩, Int.toNat_natCast, ← List.map_take, List.dropLast_eq_take]
    · rw [if_neg he, if_neg (fun h => he (Option.some.inj h.2))]
  · rw [if_neg (by omega), if_neg (fun h => h1 h.1)]
/-- whether a part has it be that its text ends in a number -/
def endP (p : ByteArray) : Bool := (numP p).2 || (!decide (p.size = 0) && allB pDec 1 p)
def lastB (s : ByteArray) : ByteArray := (partsB s).getD ((partsB s).length - 1) ByteArray.empty
set_option maxHeartbeats 4000000 in
theorem ends_calls (s : ByteArray) (hs : s.size ≤ 1000000000) (w : World) (hT : UTabs w) :
    Calls Tryd.prog 15 #[.string s] w fun e w' => e = .returned (.bool (endP (lastB s))) ∧ Below w.heap.size w w' := by
  have e23 : ∀ args w, (callFunc 23 args).run Tryd.prog w = .ok (.enter 23 args) w := enters_of Tryd.func23 (by kernel_rfl) rfl
  have e24 : ∀ args w, (callFunc 24 args).run Tryd.prog w = .ok (.enter 24 args) w := enters_of Tryd.func24 (by kernel_rfl) rfl
  have e30 : ∀ args w, (callFunc 30 args).run Tryd.prog w = .ok (.enter 30 args) w := enters_of Tryd.func30 (by kernel_rfl) rfl
  have hparts := addr_parts.calls s (partsB s) w hT (parts_f hs)
  have hne := partsB_ne s
  have hmem : ∀ p ∈ partsB s, p.size ≤ 1000000000 := fun p hp => Nat.le_trans (partsB_size hp) hs
  have hlb : (partsB s).length ≤ 1000000001 := by
    unfold partsB partsD
    rw [List.length_map]
    have := parts_len 46 s.data.toList
    rw [← Lib.size_eq] at this
    unfold cutLast
    split
    · rw [List.length_dropLast]; omega
    · omega
  unfold lastB
  generalize partsB s = l at *
  have hpos : 0 < l.length := List.length_pos_iff.2 hne
  obtain ⟨x, hx⟩ : ∃ x, x = l.getD (l.length - 1) ByteArray.empty := ⟨_, rfl⟩
  rw [← hx]
  have hxs : x.size ≤ 1000000000 := hmem x (by rw [hx, List.getD_eq_getElem?_getD, List.getElem?_eq_getElem (by omega)]; exact List.getElem_mem _)
  have HT := Lib.hid hT
  have HX := Lib.hid hx
  clear hT hx hne hmem
  obtain ⟨nb, hnb⟩ : ∃ n, n = numP x := ⟨_, rfl⟩
  obtain ⟨n1, ok⟩ := nb
  have hend : endP x = (ok || (!decide (x.size = 0) && allB pDec 1 x)) := by unfold endP; rw [← hnb]
  rw [hend]
  have hnum := fun W hTW => number_calls0 x hxs W hTW
  rw [← hnb] at hnum
  clear hnb hend
  obtain ⟨n, hn⟩ : ∃ n, n = l.length := ⟨_, rfl⟩
  have HN := Lib.hid hn
  go_enter Tryd.func15, Tryd.ntmps15
  go_wp2_with fail
  refine hparts.mono ?_
  rintro e w1 ⟨v, rfl, hR, hb1⟩
  obtain ⟨A, c, rfl, hle, hC⟩ := Kd.R_reads hR
  obtain ⟨b, o, rfl, hbl, hcell⟩ := strAt hC hpos
  have hc1 := hcell (l.length - 1) (by omega)
  rw [← HX.out] at hc1
  rw [← hn] at hc1 hpos hlb hle ⊢
  clear hC hR hcell hparts hn HX
  have HB1 := Lib.hid hb1
  clear hb1
  have hc2 : w1.cell? ⟨b, o + ((n : Int) - 1).toNat, none⟩ = some (.string x) := by rw [show ((n : Int) - 1).toNat = n - 1 from by omega]; exact hc1
  have hn1 : (1 : Int) ≤ (n : Int) := by omega
  go_wp2_with fail
  refine (hnum w1 (HT.out.below HB1.out)).mono ?_
  rintro e w2 ⟨rfl, hb2⟩
  have HB2 := Lib.hid (HB1.out.trans (hb2.mono HB1.out.size))
  clear hb2 hnum
  cases ok with
  | true =>
    go_wp2
    go_ret
    exact ⟨rfl, HB2.out⟩
  | false =>
    by_cases h0 : x.size = 0
    · obtain rfl := tl_em h0
      go_wp2
      go_ret
      exact ⟨rfl, HB2.out⟩
    · have hne := tl_ne h0
      have hall := all_one 31 pDec x w2 (by omega) ok_pDec 1
      obtain ⟨r, hr⟩ : ∃ r, r = allB pDec 1 x := ⟨_, rfl⟩
      rw [← hr] at hall
      have HR := Lib.hid hr
      have H0 := Lib.hid h0
      clear hr h0
      go_wp2_with fail
      refine hall.mono ?_
      rintro e w3 ⟨rfl, hb3⟩
      go_wp2
      go_ret
      exact ⟨by rw [decide_eq_false H0.out, ← HR.out]; rfl, HB2.out.trans (hb3.mono HB2.out.size)⟩
def addr_Ends.f (a0 : ByteArray) : Option Bool := if a0.size ≤ 1000000000 then some (endP (lastB a0)) else none
theorem addr_Ends.calls (a0 : ByteArray) (r : Bool) (w : World) (hT : UTabs w) (h : addr_Ends.f a0 = some r) :
    Calls Tryd.prog 15 #[.string a0] w fun e w' => e = .returned (.bool r) ∧ Below w.heap.size w w' := by
  unfold addr_Ends.f at h
  split at h
  · rename_i hs
    obtain rfl := Option.some.inj h
    exact ends_calls a0 hs w hT
  · cases h
end Go.Proofs.YtkabhnbjjnjdhaaDoor.Q
