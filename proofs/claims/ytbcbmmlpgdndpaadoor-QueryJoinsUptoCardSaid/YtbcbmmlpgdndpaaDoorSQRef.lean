/- The document's answers of layer 11, plain. -/
import Derived.Test.YtbcbmmlpgdndpaaDoorSQPrint
import Derived.Test.YtbcbmmlpgdndpaaDoorSQParse
import Derived.Test.YtbcbmmlpgdndpaaDoorSRRead
import Derived.Test.YtbcbmmlpgdndpaaDoorSPctRe
import Derived.Test.YtbcbmmlpgdndpaaDoorSB5
import Derived.Test.YtbcbmmlpgdndpaaDoorSQbastionref110
import Derived.Test.YtbcbmmlpgdndpaaDoorSQbastionref111
set_option linter.unusedSimpArgs false
set_option linter.unusedVariables false
namespace Go.Proofs.YtbcbmmlpgdndpaaDoor.Q
open Go.RowKit Go.Proofs.YtbcbmmlpgdndpaaDoorW.PrintWords Go.Proofs.YtbcbmmlpgdndpaaDoorW.PrintLast Go.Proofs.YtbcbmmlpgdndpaaDoorW.PrintMore Go.Proofs.YtbcbmmlpgdndpaaDoor.P1 Go.Proofs.YtbcbmmlpgdndpaaDoor.R Go.Proofs.YtbcbmmlpgdndpaaDoor.Qu
theorem pt_inj {a b : Fld} (h : pt a = pt b) : a = b := by
  obtain ⟨a0, a1⟩ := a
  obtain ⟨b0, b1⟩ := b
  unfold pt at h
  simp only [Prod.mk.injEq] at h
  obtain ⟨h0, h1⟩ := h
  have e0 : a0 = b0 := by apply ByteArray.ext; exact Array.toList_inj.1 h0
  have e1 : a1 = b1 := by apply ByteArray.ext; exact Array.toList_inj.1 h1
  rw [e0, e1]
theorem rdF_end (p r : List Fld) (x : Fld) (i : Int) (h : i = (p.length : Int)) : rd_T32 (p ++ x :: r) i = x := by subst h; simp [rd_T32]
theorem sameF_l0 (n : Nat) : ∀ (r s p q : List Fld) (k : Nat), r.length ≤ n → n + 2 ≤ k → r.length = s.length → p.length = q.length → p.length + r.length ≤ 140737488355000 →
    bastionref11_Same.l0 k (p ++ r) (q ++ s) ((p ++ r).length : Int) p.length = some (decide (r.map pt = s.map pt)) := by
  induction n with
  | zero =>
    intro r s p q k hl hk hrs hpq hsz
    obtain ⟨k, rfl⟩ : ∃ m, k = m + 1 := ⟨k - 1, by omega⟩
    obtain rfl : r = [] := List.eq_nil_of_length_eq_zero (by omega)
    obtain rfl : s = [] := List.eq_nil_of_length_eq_zero (by simpa using hrs.symm)
    simp only [bastionref11_Same.l0]
    rw [if_neg (by simp)]; simp
  | succ n ih =>
    intro r s p q k hl hk hrs hpq hsz
    obtain ⟨k, rfl⟩ : ∃ m, k = m + 1 := ⟨k - 1, by omega⟩
    simp only [bastionref11_Same.l0]
    cases r with
    | nil =>
      obtain rfl : s = [] := List.eq_nil_of_length_eq_zero (by simpa using hrs.symm)
      rw [if_neg (by simp)]; simp
    | cons c r =>
      cases s with
      | nil => simp at hrs
      | cons d s =>
        simp only [List.length_cons] at hl hrs hsz
        rw [if_pos (by simp; omega), if_pos (by omega), if_pos (by simp; omega), if_pos (by simp; omega), rdF_end p r c _ rfl, rdF_end q s d _ (by omega)]
        by_cases e : pt c = pt d
        · have e0 : c = d := pt_inj e
          subst e0
          rw [if_neg (by simp), w64 (by omega) (by omega)]
          have := ih r s (p ++ [c]) (q ++ [c]) k (by omega) (by omega) (by omega) (by simp; omega) (by simp; omega)
          rw [show (p ++ [c]) ++ r = p ++ c :: r by simp, show (q ++ [c]) ++ s = q ++ c :: s by simp, show (((p ++ [c]).length : Nat) : Int) = (p.length : Int) + 1 by simp] at this
          rw [this]; simp
        · rw [if_pos (by
            rw [Go.ByteArray.toList_eq, Go.ByteArray.toList_eq, Go.ByteArray.toList_eq, Go.ByteArray.toList_eq]
            unfold pt at e
            simp only [Prod.mk.injEq, not_and] at e
            simp only [Bool.or_eq_true, Bool.not_eq_true', beq_eq_false_iff_ne, ne_eq]
            by_cases h : c.f0.data.toList = d.f0.data.toList
            · exact .inr (e h)
            · exact .inl h)]
          simp [e]
theorem sameF_ev (a b : List Fld) (h : a.length ≤ 140737488355000) : Ev (fun k => bastionref11_Same.f k a b) (decide (a.map pt = b.map pt)) := Ev.mk (a.length + 2) fun k hk => by
  unfold bastionref11_Same.f
  by_cases e : a.length = b.length
  · rw [if_pos (by omega)]
    have := sameF_l0 a.length a b [] [] k (Nat.le_refl _) hk e rfl (by simp; omega)
    simpa using this
  · rw [if_neg (by omega), decide_eq_false (by intro h; exact e (by have := congrArg List.length h; simpa using this))]
theorem sameF_refl (a : List Fld) (h : a.length ≤ 140737488355000) : Ev (fun k => bastionref11_Same.f k a a) true := by
  have := sameF_ev a a h
  rwa [decide_eq_true rfl] at this
theorem ref_read_ev (l : List UInt8) (h : l.length ≤ 1000000) : Ev (fun k => bastionref11_read.f k (B l)) (B (rdT l)) := by
  have h2 := decL_len _ (unq l) (Nat.le_refl _)
  have h3 := unq_length l
  unfold bastionref11_read.f
  refine Ev.ite_pos (by rw [B_size]; omega) ?_
  exact (Pc.ref_Decode_ev (unq l) (by omega)).bind (ref_Scalar_ev _ (by omega))
theorem bt_at (p r : List UInt8) (c : UInt8) : bt (B (p ++ c :: r)) (p.length : Int) = (c.toNat : Int) := bt_end0 p r c _ rfl
theorem atB_pre (c : UInt8) (r : List UInt8) : ∀ p : List UInt8, c ∉ p → atB c (p ++ r) = (p ++ (atB c r).1, (atB c r).2)
  | [], _ => by simp
  | b :: p, h => by
    simp only [List.mem_cons, not_or] at h
    simp only [List.cons_append, atB]
    rw [if_neg (fun e => h.1 e.symm), atB_pre c r p h.2]
theorem rdT_nil : rdT [] = [] := by unfold rdT scal; simp [unq, decL, uDec_nil, encRunes]
theorem pair_l0 : ∀ (r p : List UInt8), (61 : UInt8) ∉ p → p.length + r.length ≤ 1000000 → Ev (fun k => bastionref11_pair.l0 k (B (p ++ r)) (p.length : Int)) (B (rdT (atB 61 (p ++ r)).1), B (rdT (atB 61 (p ++ r)).2))
  | [], p, hp, hl => by
    refine Ev.succ (f := fun k => (bastionref11_read.f k (B (p ++ []))).bind fun t => some (t, (⟨#[]⟩ : ByteArray))) (fun k => ?_) ?_
    · simp only [bastionref11_pair.l0]
      rw [if_neg (by rw [B_size]; simp)]
    · rw [atB_pre 61 [] p hp]
      simp only [atB, List.append_nil, rdT_nil]
      refine (ref_read_ev p (by simp at hl; omega)).bind ?_
      exact Ev.now _
  | c :: r, p, hp, hl => by
    simp only [List.length_cons] at hl
    by_cases hc : c = 61
    · subst hc
      refine Ev.succ (f := fun k => (bastionref11_read.f k (B p)).bind fun t1 => (bastionref11_read.f k (B r)).bind fun t2 => some (t1, t2)) (fun k => ?_) ?_
      · simp only [bastionref11_pair.l0]
        rw [if_pos (by rw [B_size]; simp; omega), if_pos (by omega), if_pos (by rw [bt_at]; rfl), if_pos (by rw [B_size]; simp; omega)]
        rw [w64 (by omega) (by omega), B_extract]
        have e1 : ((p ++ 61 :: r).drop 0).take ((p.length : Int).toNat - 0) = p := by simp
        have e2 : (B (p ++ 61 :: r)).extract ((p.length : Int) + 1).toNat (B (p ++ 61 :: r)).size = B r := by
          rw [B_extract_end, show ((p.length : Int) + 1).toNat = p.length + 1 by omega]; simp
        rw [e1]
        congr 1
        funext t
        rw [if_pos (by omega), if_pos (by rw [B_size]; simp; omega), e2]
      · rw [atB_join 61 r p hp]
        exact (ref_read_ev p (by omega)).bind ((ref_read_ev r (by omega)).bind (Ev.now _))
    · refine Ev.succ (f := fun k => bastionref11_pair.l0 k (B (p ++ c :: r)) ((p ++ [c]).length : Int)) (fun k => ?_) ?_
      · simp only [bastionref11_pair.l0]
        rw [if_pos (by rw [B_size]; simp; omega), if_pos (by omega), if_neg (by rw [bt_at]; intro h; exact hc (UInt8.toNat_inj.1 (by have : (61 : UInt8).toNat = 61 := rfl; omega))), w64 (by omega) (by omega)]
        simp
      · have := pair_l0 r (p ++ [c]) (by simp; exact ⟨hp, fun h => hc h.symm⟩) (by simp; omega)
        rwa [show (p ++ [c]) ++ r = p ++ c :: r by simp] at this
theorem pair_ev (l : List UInt8) (h : l.length ≤ 1000000) : Ev (fun k => bastionref11_pair.f k (B l)) (B (rdT (atB 61 l).1), B (rdT (atB 61 l).2)) := by
  have := pair_l0 l [] (by simp) (by simpa using h)
  exact this
/-- what is answered of a form's pairs -/
def ansP (ds : List Fld) : List Fld × Int := if 256 < ds.length then ([], 3) else (ds, 0)
theorem parse_l0 : ∀ (r p c : List UInt8) (acc : List Fld), (38 : UInt8) ∉ c → p.length + c.length + r.length ≤ 65536 → acc.length + r.length ≤ 1000000 →
    Ev (fun k => bastionref11_Parse.l0 k (B (p ++ c ++ r)) acc (p.length : Int) ((p.length + c.length : Nat) : Int)) (ansP (acc ++ rdP (cutB 38 (c ++ r))))
  | r, p, c, acc, hc, hl, ha => by
    -- a piece that ends here
    have piece : ∀ (rest : List UInt8) (R : List Fld × Int), p ++ c ++ r = p ++ c ++ rest →
        (Ev (fun k => bastionref11_Parse.l0 k (B (p ++ c ++ r)) (acc ++ rdP [c]) ((p.length + c.length + 1 : Nat) : Int) ((p.length + c.length + 1 : Nat) : Int)) R) →
        Ev (fun k => bastionref11_Parse.j1 k (B (p ++ c ++ r)) acc (p.length : Int) ((p.length + c.length : Nat) : Int) false) R := by
      intro rest R _ h
      by_cases hc0 : c = []
      · subst hc0
        refine Ev.succ (fun k => ?_) h
        simp only [bastionref11_Parse.j1]
        rw [if_neg (by simp), if_neg (by simp), w64 (by simp; omega) (by simp; omega)]
        simp [rdP]
      · have hcl : 0 < c.length := List.length_pos_iff.2 hc0
        refine Ev.succ (f := fun k => (bastionref11_pair.f k (B c)).bind fun bt => (if acc.length < 4398046511104 then bastionref11_Parse.l0 k (B (p ++ c ++ r)) (acc ++ [(⟨bt.1, bt.2⟩ : Fld)]) ((p.length + c.length + 1 : Nat) : Int) ((p.length + c.length + 1 : Nat) : Int) else none)) (fun k => ?_) ?_
        · simp only [bastionref11_Parse.j1]
          rw [if_neg (by simp), if_pos (by omega), if_pos (by omega), if_pos (by omega), if_pos (by rw [B_size]; simp; omega), w64 (by omega) (by omega), B_extract]
          have e1 : ((p ++ c ++ r).drop (p.length : Int).toNat).take (((p.length + c.length : Nat) : Int).toNat - (p.length : Int).toNat) = c := by
            rw [Int.toNat_natCast, Int.toNat_natCast, List.append_assoc, List.drop_left, show p.length + c.length - p.length = c.length by omega, List.take_left]
          rw [e1]
          rfl
        · refine (pair_ev c (by omega)).bind (Ev.ite_pos (by omega) ?_)
          have e2 : rdP [c] = [⟨B (rdT (atB 61 c).1), B (rdT (atB 61 c).2)⟩] := by simp [rdP, hc0, mkP]
          rw [e2] at h
          exact h
    match r, hl, ha, piece with
    | [], hl, ha, piece =>
      refine Ev.succ (f := fun k => bastionref11_Parse.j1 k (B (p ++ c ++ [])) acc (p.length : Int) ((p.length + c.length : Nat) : Int) false) (fun k => ?_) ?_
      · simp only [bastionref11_Parse.l0]
        rw [if_pos (by rw [B_size]; simp), if_neg (by rw [B_size]; simp)]
      · refine piece [] _ rfl (Ev.succ (f := fun _ => some (ansP (acc ++ rdP (cutB 38 (c ++ []))))) (fun k => ?_) (Ev.now _))
        simp only [bastionref11_Parse.l0]
        rw [if_neg (by rw [B_size]; simp; omega), List.append_nil, cutB_no 38 c hc]
        unfold ansP
        by_cases h : 256 < (acc ++ rdP [c]).length
        · rw [if_pos h, if_pos (by omega)]
        · rw [if_neg h, if_neg (by omega)]
    | b :: r, hl, ha, piece =>
      simp only [List.length_cons] at hl ha
      by_cases hb : b = 38
      · subst hb
        refine Ev.succ (f := fun k => bastionref11_Parse.j1 k (B (p ++ c ++ 38 :: r)) acc (p.length : Int) ((p.length + c.length : Nat) : Int) false) (fun k => ?_) ?_
        · simp only [bastionref11_Parse.l0]
          rw [if_pos (by rw [B_size]; simp; omega), if_pos (by rw [B_size]; simp; omega), if_pos (by omega), show ((p.length + c.length : Nat) : Int) = ((p ++ c).length : Int) by simp, bt_at]
          rfl
        · refine piece (38 :: r) _ rfl ?_
          rw [cutB_join 38 r c, cutB_no 38 c hc]
          have := parse_l0 r (p ++ c ++ [38]) [] (acc ++ rdP [c]) (by simp) (by simp; omega) (by have := rdP_len [c]; simp only [List.length_append, List.length_cons, List.length_nil] at this ⊢; omega)
          rw [show (p ++ c ++ [38]) ++ [] ++ r = p ++ c ++ 38 :: r by simp] at this
          simp only [List.length_append, List.length_cons, List.length_nil, Nat.add_zero, List.nil_append] at this
          have e : acc ++ rdP ([c] ++ cutB 38 r) = acc ++ rdP [c] ++ rdP (cutB 38 r) := by simp [rdP, List.filter_cons]; split <;> simp
          rw [e]
          simpa using this
      · refine Ev.succ (f := fun k => bastionref11_Parse.j1 k (B (p ++ c ++ b :: r)) acc (p.length : Int) ((p.length + c.length : Nat) : Int) true) (fun k => ?_) (Ev.succ (f := fun k => bastionref11_Parse.l0 k (B (p ++ c ++ b :: r)) acc (p.length : Int) ((p.length + (c ++ [b]).length : Nat) : Int)) (fun k => ?_) ?_)
        · simp only [bastionref11_Parse.l0]
          rw [if_pos (by rw [B_size]; simp; omega), if_pos (by rw [B_size]; simp; omega), if_pos (by omega)]
          congr 1
          rw [show ((p.length + c.length : Nat) : Int) = ((p ++ c).length : Int) by simp, bt_at]
          simp only [bne_iff_ne, ne_eq]
          intro h; exact hb (UInt8.toNat_inj.1 (by have : (38 : UInt8).toNat = 38 := rfl; omega))
        · simp only [bastionref11_Parse.j1]
          rw [if_pos (by trivial), w64 (by omega) (by omega)]
          simp [Int.add_assoc]
        · have := parse_l0 r p (c ++ [b]) acc (by simp; exact ⟨hc, fun h => hb h.symm⟩) (by simp; omega) (by omega)
          rw [show p ++ (c ++ [b]) ++ r = p ++ c ++ b :: r by simp, show (c ++ [b]) ++ r = c ++ b :: r by simp] at this
          exact this
termination_by r => r.length
theorem ref_Parse_ev (s : List UInt8) : Ev (fun k => bastionref11_Parse.f k (B s)) (if 65536 < s.length then ([], 4) else ansP (prsF s)) := by
  unfold bastionref11_Parse.f
  by_cases h : 65536 < s.length
  · rw [if_pos h]
    exact Ev.ite_pos (by rw [B_size]; omega) (Ev.now _)
  · rw [if_neg h]
    refine Ev.ite_neg (by rw [B_size]; omega) ?_
    have := parse_l0 s [] [] [] (by simp) (by simp; omega) (by simp; omega)
    unfold prsF
    rw [parts_cutB]
    simpa using this
theorem query_Parse_f (s : List UInt8) : query_Parse.f (B s) = some (if 65536 < s.length then ([], 4) else ansP (prsF s)) := by
  unfold query_Parse.f ansP
  rw [B_size, B_data]
  split
  · rfl
  · split <;> rfl
theorem bytesOf_B (l : List UInt8) : bytesOf (B l) = ns l := rfl
theorem qb_one (b : UInt8) (h : b ≠ 32) : encL 8 [b] = qb b := by rw [encL_one]; unfold qb; rw [if_neg h]
theorem written_l0 : ∀ (r p : List UInt8) (x : List Int), x.length + 3 * r.length ≤ 1000000 → p.length + r.length ≤ 1000000 → Ev (fun k => bastionref11_written.l0 k (B (p ++ r)) x (p.length : Int)) (x ++ ns (quL r))
  | [], p, x, hx, hp => by
    refine Ev.succ (f := fun _ => some x) (fun k => ?_) (by simpa [quL_nil, ns] using Ev.now x)
    simp only [bastionref11_written.l0]
    rw [if_neg (by rw [B_size]; simp)]
  | b :: r, p, x, hx, hp => by
    simp only [List.length_cons] at hx hp
    have hq := qb_length b
    by_cases hb : b = 32
    · subst hb
      refine Ev.succ (f := fun k => bastionref11_written.l0 k (B (p ++ 32 :: r)) (x ++ [43]) ((p ++ [32]).length : Int)) (fun k => ?_) ?_
      · simp only [bastionref11_written.l0]
        rw [if_pos (by rw [B_size]; simp; omega), if_pos (by omega), if_pos (by rw [bt_at]; rfl), if_pos (by omega), w64 (by omega) (by omega)]
        simp
      · have := written_l0 r (p ++ [32]) (x ++ [43]) (by simp; omega) (by simp; omega)
        rw [show (p ++ [32]) ++ r = p ++ 32 :: r by simp] at this
        rw [quL_cons, ns_append, show ns (qb 32) = [43] from rfl]
        simpa using this
    · refine Ev.succ (f := fun k => (bastionref01_Encode.f k (B [b]) 8).bind fun bt => (if x.length + bt.1.size < 140737488355328 then bastionref11_written.l0 k (B (p ++ b :: r)) (x ++ bytesOf bt.1) ((p ++ [b]).length : Int) else none)) (fun k => ?_) ?_
      · simp only [bastionref11_written.l0]
        rw [if_pos (by rw [B_size]; simp; omega), if_pos (by omega), if_neg (by rw [bt_at]; intro h; exact hb (UInt8.toNat_inj.1 (by have : (32 : UInt8).toNat = 32 := rfl; omega))), w64 (by omega) (by omega), if_pos (by omega), if_pos (by rw [B_size]; simp; omega), B_extract]
        have e1 : ((p ++ b :: r).drop (p.length : Int).toNat).take (((p.length : Int) + 1).toNat - (p.length : Int).toNat) = [b] := by
          rw [Int.toNat_natCast, List.drop_left, show ((p.length : Int) + 1).toNat - p.length = 1 by omega]; rfl
        rw [e1]
        simp
      · refine (Pc.ref_Encode_good [b] 8 (by omega) (by omega) (by simp)).bind (Ev.ite_pos (by rw [B_size, qb_one b hb]; omega) ?_)
        have := written_l0 r (p ++ [b]) (x ++ ns (qb b)) (by rw [List.length_append, ns_length]; omega) (by simp; omega)
        rw [show (p ++ [b]) ++ r = p ++ b :: r by simp] at this
        rw [bytesOf_B, qb_one b hb, quL_cons, ns_append]
        simpa using this
theorem written_ev (l : List UInt8) (h : l.length ≤ 4096) : Ev (fun k => bastionref11_written.f k (B l)) (ns (fw l)) := by
  have hs := scal_len l
  unfold bastionref11_written.f
  refine (ref_Scalar_ev l (by omega)).bind ?_
  have := written_l0 (scal l) [] [] (by simp; omega) (by simp; omega)
  show Ev (fun k => bastionref11_written.l0 k (B (scal l)) [] 0) (ns (fw l))
  simpa [fw] using this
/-- the text of one more pair -/
theorem prtF_step (p : List Fld) (x : Fld) : ns (prtF (p ++ [x])) = ns (prtF p) ++ (if p = [] then [] else [38]) ++ (ns (fw (pt x).1) ++ ([61] ++ ns (fw (pt x).2))) := by
  rw [prtF_snoc, ns_append, ns_append, ns_append, ns_cons]
  split <;> simp [ns]
theorem B_pt0 (x : Fld) : x.f0 = B (pt x).1 := rfl
theorem B_pt1 (x : Fld) : x.f1 = B (pt x).2 := rfl
theorem print_l1 : ∀ (r p : List Fld), (∀ x ∈ p ++ r, shortP x) → p.length + r.length ≤ 256 → Ev (fun k => bastionref11_Print.l1 k (ns (prtF p)) (p ++ r) ((p ++ r).length : Int) (p.length : Int)) (B (prtF (p ++ r)), 0)
  | [], p, hs, hl => by
    refine Ev.succ (f := fun _ => some (B (prtF p), 0)) (fun k => ?_) (by simpa using Ev.now (B (prtF p), (0 : Int)))
    simp only [bastionref11_Print.l1]
    rw [if_neg (by simp), strOf_ns]
  | x :: r, p, hs, hl => by
    simp only [List.length_cons] at hl
    obtain ⟨h0, h1⟩ := hs x (by simp)
    have g0 : (pt x).1.length ≤ 4096 := h0
    have g1 : (pt x).2.length ≤ 4096 := h1
    have f0 := fw_len (pt x).1
    have f1 := fw_len (pt x).2
    have hp := prtF_len p.length p (Nat.le_refl _) (fun y hy => hs y (by simp [hy]))
    have hN : ((p ++ x :: r).length : Int) = ((p ++ [x] ++ r).length : Int) := by simp
    have ih := print_l1 r (p ++ [x]) (by simpa using hs) (by simp; omega)
    rw [show p ++ [x] ++ r = p ++ x :: r by simp, prtF_step] at ih
    have hnl : (ns (prtF p)).length = (prtF p).length := ns_length _
    have hn0 : (ns (fw (pt x).1)).length = (fw (pt x).1).length := ns_length _
    have hn1 : (ns (fw (pt x).2)).length = (fw (pt x).2).length := ns_length _
    have hlen : (p ++ [x]).length = p.length + 1 := by simp
    rw [hlen] at ih
    have w1 := written_ev (pt x).1 g0
    have w2 := written_ev (pt x).2 g1
    generalize ns (prtF p) = P at *
    by_cases hp0 : p = []
    · rw [if_pos hp0] at ih
      have hz : p.length = 0 := by rw [hp0]; rfl
      refine Ev.succ (f := ?f) (fun k => ?h) ?e
      case h =>
        simp only [bastionref11_Print.l1]
        rw [if_pos (by simp; omega), if_pos (by omega), if_pos (by simp; omega), if_neg (by omega), rdF_end p r x _ rfl, w64 (by omega) (by omega)]
      simp only [Option.bind_some, B_pt0 x, B_pt1 x]
      refine w1.bind (Ev.ite_pos (by omega) (Ev.ite_pos (by simp only [List.length_append, List.length_cons, List.length_nil]; omega) (w2.bind (Ev.ite_pos (by simp only [List.length_append, List.length_cons, List.length_nil]; omega) ?_))))
      simpa [List.append_assoc] using ih
    · rw [if_neg hp0] at ih
      have hz : 0 < p.length := List.length_pos_iff.2 hp0
      refine Ev.succ (f := ?f2) (fun k => ?h2) ?e2
      case h2 =>
        simp only [bastionref11_Print.l1]
        rw [if_pos (by simp; omega), if_pos (by omega), if_pos (by simp; omega), if_pos (by omega), rdF_end p r x _ rfl, w64 (by omega) (by omega)]
      simp only [Option.bind_some, B_pt0 x, B_pt1 x]
      refine Ev.ite_pos (by simp only [List.length_cons, List.length_nil]; omega) (w1.bind (Ev.ite_pos (by simp only [List.length_append, List.length_cons, List.length_nil]; omega) (Ev.ite_pos (by simp only [List.length_append, List.length_cons, List.length_nil]; omega) (w2.bind (Ev.ite_pos (by simp only [List.length_append, List.length_cons, List.length_nil]; omega) ?_)))))
      simpa [List.append_assoc] using ih
theorem print_l0 (l0 : List Fld) (hl0 : l0.length ≤ 256) : ∀ (r p : List Fld), p ++ r = l0 → (∀ x ∈ p, shortP x) → Ev (fun k => bastionref11_Print.l0 k l0 l0 (l0.length : Int) (p.length : Int)) (if r.any (fun x => longP x.f0 x.f1) then (⟨#[]⟩, 4) else (B (prtF l0), 0))
  | [], p, hl, hs => by
    simp only [List.append_nil] at hl
    subst hl
    refine Ev.succ (f := fun k => bastionref11_Print.l1 k ([] : List Int) p (p.length : Int) 0) (fun k => ?_) ?_
    · simp only [bastionref11_Print.l0]
      rw [if_neg (by simp)]
    · have := print_l1 p [] (by simpa using hs) (by simpa using hl0)
      simpa [prtF, prt, ns] using this
  | x :: r, p, hl, hs => by
    have hlen : l0.length = p.length + 1 + r.length := by rw [← hl]; simp; omega
    have hx : rd_T32 l0 (p.length : Int) = x := by rw [← hl]; exact rdF_end p r x _ rfl
    by_cases h0 : 4096 < x.f0.size
    · refine Ev.succ (f := fun _ => some (⟨#[]⟩, 4)) (fun k => ?_) ?_
      · simp only [bastionref11_Print.l0]
        rw [if_pos (by omega), if_pos (by omega), if_pos (by omega), hx, if_pos (by omega)]
      · have : (x :: r).any (fun x => longP x.f0 x.f1) = true := by simp only [List.any_cons, longP]; rw [decide_eq_true (by omega)]; rfl
        rw [if_pos this]; exact Ev.now _
    · by_cases h1 : 4096 < x.f1.size
      · refine Ev.succ (f := fun _ => some (⟨#[]⟩, 4)) (fun k => ?_) ?_
        · simp only [bastionref11_Print.l0]
          rw [if_pos (by omega), if_pos (by omega), if_pos (by omega), hx, if_neg (by omega), if_pos (by omega)]
        · have : (x :: r).any (fun x => longP x.f0 x.f1) = true := by simp only [List.any_cons, longP]; rw [decide_eq_true (by omega)]; rfl
          rw [if_pos this]; exact Ev.now _
      · have ih := print_l0 l0 hl0 r (p ++ [x]) (by simpa using hl) (fun y hy => by
          rcases List.mem_append.1 hy with h | h
          · exact hs y h
          · obtain rfl : y = x := by simpa using h
            exact ⟨by omega, by omega⟩)
        refine Ev.succ (f := fun k => bastionref11_Print.l0 k l0 l0 (l0.length : Int) ((p ++ [x]).length : Int)) (fun k => ?_) ?_
        · simp only [bastionref11_Print.l0]
          rw [if_pos (by omega), if_pos (by omega), if_pos (by omega), hx, if_neg (by omega), if_neg (by omega), w64 (by omega) (by omega)]
          simp
        · have : (x :: r).any (fun x => longP x.f0 x.f1) = r.any (fun x => longP x.f0 x.f1) := by simp only [List.any_cons, longP]; rw [decide_eq_false (by omega)]; rfl
          rw [this]; exact ih
theorem ref_Print_ev (l : List Fld) : ∃ r, query_Print.f l = some r ∧ Ev (fun k => bastionref11_Print.f k l) r := by
  unfold query_Print.f
  by_cases h : 256 < l.length
  · rw [if_pos h]
    refine ⟨_, rfl, ?_⟩
    unfold bastionref11_Print.f
    exact Ev.ite_pos (by omega) (Ev.now _)
  · rw [if_neg h]
    have := print_l0 l (by omega) l [] rfl (by simp)
    by_cases h2 : l.any (fun x => longP x.f0 x.f1) = true
    · rw [if_pos h2] at this ⊢
      refine ⟨_, rfl, ?_⟩
      unfold bastionref11_Print.f
      exact Ev.ite_neg (by omega) this
    · rw [if_neg h2] at this ⊢
      refine ⟨_, rfl, ?_⟩
      unfold bastionref11_Print.f
      exact Ev.ite_neg (by omega) this
end Go.Proofs.YtbcbmmlpgdndpaaDoor.Q
