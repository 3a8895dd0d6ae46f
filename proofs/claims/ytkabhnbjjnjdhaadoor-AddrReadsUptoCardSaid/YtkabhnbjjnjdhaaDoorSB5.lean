/- Plain words on bytes: the sets of percent-encoding, encoding, and what they need; no program in sight. -/
/- copy(d, s) into a row that is known whole: what it leaves, and that nothing else has turned. -/
/- Addresses of eight pieces, plain: what is written is read as what it was; what is read is eight small numbers. -/
/- Arguments opened: what a row's reader reads of lists, texts and structs, as the kinds of the walks. -/
import Derived.PlainAid
import Derived.Test.YtkabhnbjjnjdhaaDoorSQbase
import Derived.Laws.CopyOwn
import Derived.Test.YtkabhnbjjnjdhaaDoorSAdL
import Derived.Test.YtkabhnbjjnjdhaaDoorRows
import Derived.Test.YtkabhnbjjnjdhaaDoorSWWords
import Derived.Deep.Slices
import Derived.Deep.Strs
import Derived.ChangeArms
import Derived.ChangeSame
section
set_option linter.unusedSimpArgs false
set_option linter.unusedVariables false
namespace Go.Proofs.YtkabhnbjjnjdhaaDoor.P1
/-- A digit's sign. -/
def hexU (n : Nat) : UInt8 := if n < 10 then (48 + n).toUInt8 else (55 + n).toUInt8
theorem take_snoc (s : ByteArray) (k : Nat) (h : k < s.size) : s.data.toList.take (k + 1) = s.data.toList.take k ++ [s[k]] := by
  rw [List.take_succ_eq_append_getElem (by simpa using h)]; rfl
end Go.Proofs.YtkabhnbjjnjdhaaDoor.P1
end
section
set_option linter.unusedVariables false
namespace Go.Proofs.YtkabhnbjjnjdhaaDoor.Q
open Go.RowKit Go.Proofs.YtkabhnbjjnjdhaaDoorW.PrintWords Go.Proofs.YtkabhnbjjnjdhaaDoorW.PrintLast Go.Proofs.YtkabhnbjjnjdhaaDoorW.PrintMore
/-- what a copy asks for -/
def CopyOk (w : World) (dp sp : Option Addr) (dLen sLen g off : Nat) (cur : List Value) (t : TypeId) (cs : List Value) : Prop :=
  w.heap[g]? = some (.cells cur.toArray t (0, 0)) ∧ cs.length = Nat.min sLen dLen ∧ (0 < cs.length → dp = some ⟨g, off, none⟩ ∧ ∃ ad, sp = some ad ∧ ∀ j v, cs[j]? = some v → w.cell? (ad.add j) = some v) ∧ off + cs.length ≤ cur.length ∧ ∀ v ∈ cs, v.oneCell' = true
/-- what it leaves -/
def CopyDone (w w' : World) (g off : Nat) (cur : List Value) (t : TypeId) (cs : List Value) : Prop := w'.heap[g]? = some (.cells (splice cur off cs).toArray t (0, 0)) ∧ w.grownBy w' (some g)
theorem copy_far {P : Program} {w : World} {ops : Array Oper} {rest : List Oper} {o : Oper} {a : Act} {Q : Exit → Act → World → Prop} (hgd : o.guard = none) (d s : Operand) (dT sT : TypeId)
    (ho : o.op = .call { callee := .builtin .copy, args := #[d, s], argTypes := #[dT, sT] }) (elem : TypeId) (hu : P.underlying dT = some (.slice elem)) (hsz : (P.info? elem).map (·.size) = some 1)
    (dp sp : Option Addr) (dLen dCap sLen sCap : Nat) (hd : a.eval d = .slice dp dLen dCap) (hs : a.eval s = .slice sp sLen sCap)
    (g off : Nat) (cur : List Value) (t : TypeId) (cs : List Value)
    (HS : CopyOk w dp sp dLen sLen g off cur t cs)
    (h : ∀ w', CopyDone w w' g off cur t cs → wpList P ops Q rest (a.put o.dst (goInt cs.length)) w') :
    wpList P ops Q (o :: rest) a w := by
  obtain ⟨hg, hn, hpos, hfit, h1⟩ := HS
  by_cases h0 : cs.length = 0
  · obtain rfl : cs = [] := List.eq_nil_of_length_eq_zero h0
    refine wpList_copy_nothing hgd d s dT sT ho elem hu hsz dp sp dLen dCap sLen sCap hd hs (by simpa using hn.symm) ?_
    exact h w ⟨by simpa [splice] using hg, ⟨rfl, rfl, rfl, Nat.le_refl _, fun _ _ _ => rfl⟩⟩
  · obtain ⟨rfl, ad, rfl, hsrc⟩ := hpos (by omega)
    refine wpList_copy_own hgd d s dT sT ho elem hu hsz g off dLen dCap ad sLen sCap hd hs cur.toArray t hg cs hn hsrc (by simpa using hfit) h1 ?_
    exact h _ ⟨by simpa [splice] using setRow_heap w g _ _ t _ hg, ⟨rfl, rfl, rfl, by simp [World.setRow], fun k _ hk => setRow_other w g k _ (fun e => hk (by rw [e]))⟩⟩
end Go.Proofs.YtkabhnbjjnjdhaaDoor.Q
end
section
set_option linter.unusedSimpArgs false
set_option linter.unusedVariables false
namespace Go.Proofs.YtkabhnbjjnjdhaaDoor.Ad
open Go
theorem hexU_len (n : Nat) : 0 < (hexU n).length ∧ (hexU n).length ≤ 4 := by
  unfold hexU hexS hexJ
  rw [List.length_map, List.length_range]
  split
  · omega
  · split
    · omega
    · split <;> omega
theorem join_len (sep : List UInt8) (hs : sep.length ≤ 1) : ∀ r : List (List UInt8), (∀ x ∈ r, x.length ≤ 4) → (Lib.joinTail sep r).length ≤ 5 * r.length := by
  intro r
  unfold Lib.joinTail
  induction r with
  | nil => intro _; simp
  | cons y q ih =>
    intro hq
    have := ih (fun z hz => hq z (List.mem_cons_of_mem _ hz))
    have hy := hq y List.mem_cons_self
    rw [List.map_cons, List.flatten_cons, List.length_append, List.length_append, List.length_cons]
    omega
theorem valF_lt {b : Nat} (hb : 0 < b) : ∀ (l : List UInt8) (acc : Nat), allD b l = true → valF b acc l < (acc + 1) * b ^ l.length
  | [], acc, _ => by unfold valF; simp
  | c :: r, acc, h => by
    unfold allD at h
    rw [List.all_cons, Bool.and_eq_true] at h
    have h1 := of_decide_eq_true h.1
    have ih := valF_lt hb r (acc * b + dgN c) h.2
    unfold valF
    refine Nat.lt_of_lt_of_le ih ?_
    rw [List.length_cons, Nat.pow_succ, Nat.mul_comm (b ^ r.length) b, ← Nat.mul_assoc]
    refine Nat.mul_le_mul_right _ ?_
    rw [Nat.add_mul]
    omega
theorem dot_lt {w : List UInt8} {a b : Nat} (h : dotL w = some (a, b)) : a < 65536 ∧ b < 65536 := by
  unfold dotL dotM at h
  split at h
  · rename_i p q r s he
    simp only [Option.some.injEq, Prod.mk.injEq] at h
    have hm : ∀ x, some x ∈ (parts 46 w).map decP → x < 256 := fun x hx => by
      obtain ⟨y, _, hy⟩ := List.mem_map.1 hx
      exact (decP_some hy).1
    rw [he] at hm
    have := hm p (by simp)
    have := hm q (by simp)
    have := hm r (by simp)
    have := hm s (by simp)
    omega
  · cases h
end Go.Proofs.YtkabhnbjjnjdhaaDoor.Ad
end
section
set_option linter.unusedSimpArgs false
set_option linter.unusedVariables false
namespace Go.Proofs.YtkabhnbjjnjdhaaDoor.Q
open Go.RowKit Go.Proofs.YtkabhnbjjnjdhaaDoorW.PrintWords Go.Deep Go.ChangeShapes Go.WideShapes
section
variable {H : Type} {enc : TypeId × Value → H} {P : Program} {w : World} {base : Nat} {spare : Nat → Bool} {held : Bool}
end
end Go.Proofs.YtkabhnbjjnjdhaaDoor.Q
end
