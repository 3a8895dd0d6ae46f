/- The document's answers on source expressions, plain: letters, schemes, names, nonces. -/
/- What stands between separators, and words: plain laws. -/
/- Functions of the given program as plain Lean functions, each with the proof that the machine answers as it does; laid by a program of mine over the kit print. -/
import Derived.Test.YtnndgmbflkdhkaaGreatDoorSSrcL
import Derived.Test.YtnndgmbflkdhkaaGreatDoorSB9
import Derived.Test.YtnndgmbflkdhkaaGreatDoorSB12
import Derived.Test.YtnndgmbflkdhkaaGreatDoorSSplit
import Derived.Test.YtnndgmbflkdhkaaGreatDoorSFields
import Derived.Test.YtnndgmbflkdhkaaGreatDoorSB7
import Derived.Test.YtnndgmbflkdhkaaGreatDoorSB11
import Derived.Test.YtnndgmbflkdhkaaGreatDoorSB4
section
set_option linter.unusedSimpArgs false
set_option linter.unusedVariables false
namespace Go.Proofs.YtnndgmbflkdhkaaGreatDoor.Q
open Go.RowKit Go.Proofs.YtnndgmbflkdhkaaGreatDoorW.PrintWords Go.Proofs.YtnndgmbflkdhkaaGreatDoorW.PrintLast Go.Proofs.YtnndgmbflkdhkaaGreatDoorW.PrintMore Go.Proofs.YtnndgmbflkdhkaaGreatDoor.P1
theorem lowC_num (c : UInt8) : ((lowC c).toNat : Int) = if (c.toNat : Int) ≥ 65 then (if (c.toNat : Int) ≤ 90 then ((c.toNat : Int) + 32) % 256 else c.toNat) else c.toNat :=
  all_c (p := fun c => ((lowC c).toNat : Int) = if (c.toNat : Int) ≥ 65 then (if (c.toNat : Int) ≤ 90 then ((c.toNat : Int) + 32) % 256 else c.toNat) else c.toNat) (by decide +kernel) c
theorem bt_at' (l : List UInt8) {i : Nat} (h : i < l.length) : bt (B l) (i : Int) = ((l[i]).toNat : Int) := by
  rw [B_bt, Int.toNat_natCast, List.getD_eq_getElem?_getD, List.getElem?_eq_getElem h, Option.getD_some]
theorem w64s {i n : Nat} (h : i < n) (hn : n ≤ 140737488355328) : wrap64 ((i : Int) + 1) = ((i + 1 : Nat) : Int) := by rw [w64 (by omega) (by omega)]; omega
theorem lowerR_l (l : List UInt8) (hl : l.length ≤ 1048576) : ∀ (n k i : Nat), l.length - i = n → n < k → i ≤ l.length → bastionref01_Lower.l0 k (B l) (ns (low (l.take i))) (i : Int) = some (B (low l))
  | 0, k, i, hn, hk, hi => by
    obtain ⟨k, rfl⟩ : ∃ m, k = m + 1 := ⟨k - 1, by omega⟩
    simp only [bastionref01_Lower.l0]
    rw [if_neg (by rw [B_size]; omega), strOf_ns, List.take_of_length_le (by omega)]
  | n + 1, k, i, hn, hk, hi => by
    obtain ⟨k, rfl⟩ : ∃ m, k = m + 1 := ⟨k - 1, by omega⟩
    have hlt : i < l.length := by omega
    have hlen : (ns (low (l.take i))).length < 140737488355328 := by rw [ns_length, low_length, List.length_take]; omega
    have ih := lowerR_l l hl n k (i + 1) (by omega) (by omega) (by omega)
    rw [List.take_add_one, List.getElem?_eq_getElem hlt, Option.toList_some] at ih
    have e : ns (low (l.take i ++ [l[i]])) = ns (low (l.take i)) ++ [((lowC l[i]).toNat : Int)] := by
      unfold low
      rw [List.map_append, ns_append]; rfl
    rw [e, lowC_num] at ih
    simp only [bastionref01_Lower.l0]
    rw [if_pos (by rw [B_size]; omega), if_pos (by omega), bt_at' l hlt, w64s hlt (by omega)]
    simp only [if_pos hlen]
    split
    · rename_i h1
      rw [if_pos h1] at ih
      split
      · rename_i h2
        rw [if_pos h2] at ih
        exact ih
      · rename_i h2
        rw [if_neg h2] at ih
        exact ih
    · rename_i h1
      rw [if_neg h1] at ih
      exact ih
theorem lowerR (l : List UInt8) (hl : l.length ≤ 1048576) (k : Nat) (hk : l.length < k) : bastionref01_Lower.f k (B l) = some (B (low l)) := lowerR_l l hl l.length k 0 (by omega) hk (by omega)
theorem c_eq (c : UInt8) (n : Nat) (hn : n < 256) : ((c.toNat : Int) = (n : Int)) = (c = n.toUInt8) := by
  apply propext
  constructor
  · intro h
    have : c.toNat = n := by omega
    rw [← this]; simp
  · intro h
    subst h
    simp
    omega
theorem c39 (c : UInt8) : ((c.toNat : Int) = 39) = (c = 39) := c_eq c 39 (by omega)
end Go.Proofs.YtnndgmbflkdhkaaGreatDoor.Q
end
section
set_option linter.unusedSimpArgs false
set_option linter.unusedVariables false
namespace Go.Proofs.YtnndgmbflkdhkaaGreatDoor.Q
open Go.RowKit Go.Proofs.YtnndgmbflkdhkaaGreatDoorW.PrintWords Go.Proofs.YtnndgmbflkdhkaaGreatDoorW.PrintLast Go.Proofs.YtnndgmbflkdhkaaGreatDoorW.PrintMore Go.Proofs.YtnndgmbflkdhkaaGreatDoor.P1
theorem parts_cons (c b : UInt8) (r : List UInt8) : parts c (b :: r) = if b = c then [] :: parts c r else match parts c r with
    | [] => [[b]]
    | p :: ps => (b :: p) :: ps := rfl
theorem parts_mem (c : UInt8) : ∀ (l x : List UInt8), x ∈ parts c l → c ∉ x ∧ ∀ b ∈ x, b ∈ l
  | [], x, h => by simp [parts] at h; simp [h]
  | b :: r, x, h => by
    unfold parts at h
    split at h
    · rcases List.mem_cons.1 h with rfl | h
      · simp
      · have := parts_mem c r x h; exact ⟨this.1, fun d hd => List.mem_cons_of_mem _ (this.2 d hd)⟩
    · rename_i hb
      split at h
      · rename_i hp; exact absurd hp (parts_ne c r)
      · rename_i p ps hp
        rcases List.mem_cons.1 h with rfl | h
        · have := parts_mem c r p (by rw [hp]; simp)
          refine ⟨fun e => ?_, fun d hd => ?_⟩
          · rcases List.mem_cons.1 e with e | e
            · exact hb e.symm
            · exact this.1 e
          · rcases List.mem_cons.1 hd with rfl | hd
            · simp
            · exact List.mem_cons_of_mem _ (this.2 d hd)
        · have := parts_mem c r x (by rw [hp]; simp [h]); exact ⟨this.1, fun d hd => List.mem_cons_of_mem _ (this.2 d hd)⟩
theorem wordsGo_mem : ∀ (l cur x : List UInt8), (∀ b ∈ cur, bl b = false) → x ∈ wordsGo cur l → x ≠ [] ∧ ∀ b ∈ x, bl b = false ∧ (b ∈ cur ∨ b ∈ l)
  | [], cur, x, hc, h => by
    unfold wordsGo at h
    split at h
    · cases h
    · rename_i hne
      simp at h
      subst h
      exact ⟨hne, fun b hb => ⟨hc b hb, .inl hb⟩⟩
  | a :: r, cur, x, hc, h => by
    unfold wordsGo at h
    split at h
    · split at h
      · have := wordsGo_mem r [] x (by simp) h
        exact ⟨this.1, fun b hb => ⟨(this.2 b hb).1, by rcases (this.2 b hb).2 with h | h; · cases h
                                                        · exact .inr (List.mem_cons_of_mem _ h)⟩⟩
      · rename_i hne
        rcases List.mem_cons.1 h with rfl | h
        · exact ⟨hne, fun b hb => ⟨hc b hb, .inl hb⟩⟩
        · have := wordsGo_mem r [] x (by simp) h
          exact ⟨this.1, fun b hb => ⟨(this.2 b hb).1, by rcases (this.2 b hb).2 with h | h; · cases h
                                                          · exact .inr (List.mem_cons_of_mem _ h)⟩⟩
    · rename_i hb
      have := wordsGo_mem r (cur ++ [a]) x (fun b h => by
        rcases List.mem_append.1 h with h | h
        · exact hc b h
        · simp at h; subst h; simpa using hb) h
      refine ⟨this.1, fun b hb => ⟨(this.2 b hb).1, ?_⟩⟩
      rcases (this.2 b hb).2 with h | h
      · rcases List.mem_append.1 h with h | h
        · exact .inl h
        · simp at h; subst h; exact .inr (by simp)
      · exact .inr (List.mem_cons_of_mem _ h)
theorem wordsL_mem (l x : List UInt8) (h : x ∈ wordsL l) : x ≠ [] ∧ ∀ b ∈ x, bl b = false ∧ b ∈ l := by
  have := wordsGo_mem l [] x (by simp) h
  exact ⟨this.1, fun b hb => ⟨(this.2 b hb).1, by rcases (this.2 b hb).2 with h | h; · cases h
                                                  · exact h⟩⟩
end Go.Proofs.YtnndgmbflkdhkaaGreatDoor.Q
end
section
namespace Go.Proofs.YtnndgmbflkdhkaaGreatDoor.Q
open Go.RowKit Go.Proofs.YtnndgmbflkdhkaaGreatDoorW.PrintWords Go.Proofs.YtnndgmbflkdhkaaGreatDoorW.PrintLast Go.Proofs.YtnndgmbflkdhkaaGreatDoorW.PrintMore
attribute [local go_sem] max2_int min2_int max_two min_two max_three min_three max_four min_four
set_option linter.unusedVariables false
set_option linter.unusedSimpArgs false
attribute [local go_sem] isEmpty_bne
def bastionref14_word.l0 : Nat → ByteArray → Int → Option (Bool)
 | 0, _, _ => none
 | k + 1, x0, x3 => if x3 < (x0.size : Int) then (if 0 ≤ x3 then ((bastionref14_blank.f (bt x0 x3)).bind fun t234 => (if t234 = true then (some false) else (if (bt x0 x3) = 59 then (some false) else (bastionref14_word.l0 k x0 (wrap64 (x3 + 1)))))) else (none)) else (some (x0.toList != ([] : List UInt8)))
def bastionref14_word.f (k : Nat) (a0 : ByteArray) : Option (Bool) := bastionref14_word.l0 k a0 0
set_option maxHeartbeats 8000000 in
set_option maxRecDepth 100000 in
theorem bastionref14_word.calls (k : Nat) (a0 : ByteArray) (r : Bool) (w : World) (h : bastionref14_word.f k a0 = some r) :
  Calls Tryz.prog 53 #[.string a0] w fun e w' => e = .returned (.bool r) ∧ Drawn0 w w' := by
 have H : (bastionref14_word.l0 k a0 0) = some r := h
 clear h
 have H' := Aside0.mk H
 clear H
 go_enter Tryz.func53, Tryz.ntmps53
 go_wp2
 go_loopg [3] k (fun kq v3 w' => ∃ (x3_1 : Int), v3 = .int .i64 x3_1 ∧ Aside0 (bastionref14_word.l0 kq a0 x3_1 = some r) ∧ Aside0 (kq ≤ k) ∧ Drawn0 w w')
 case atStart => exact ⟨(0), (by first | rfl | (simp; done) | (simp [*]; done)), H', ⟨Nat.le_refl _⟩, by repeat (first | exact Drawn0.refl _ | apply Drawn0.step)⟩
 case round =>
  clear H'
  obtain ⟨x3_1, rfl, HA, HK1, ⟨m1, rfl⟩⟩ := hrel
  cases gk with
  | zero => exact absurd HA.out (by simp [bastionref14_word.l0])
  | succ k1 =>
   have H := HA.out
   clear HA
   simp only [bastionref14_word.l0] at H
   by_cases c2 : x3_1 < (a0.size : Int)
   ·rw [if_pos c2] at H
    have c2b0 : decide (x3_1 < (a0.size : Int)) = true := decide_eq_true c2
    clear c2
    by_cases c3 : 0 ≤ x3_1
    ·rw [if_pos c3] at H
     have c3b0 : decide (0 ≤ x3_1) = true := decide_eq_true c3
     clear c3
     replace H := Option.bind_eq_some_iff.mp H
     obtain ⟨t234, A50, H⟩ := H
     replace H : (if t234 = true then (some false) else (if (bt a0 x3_1) = 59 then (some false) else (bastionref14_word.l0 k1 a0 (wrap64 (x3_1 + 1))))) = some r := H
     have A5 := Aside0.mk A50
     clear A50
     by_cases c6 : t234 = true
     ·subst c6
      have H1 : (some false) = some r := by rw [if_pos rfl] at H; exact H
      clear H
      have H := H1
      clear H1
      obtain rfl := Option.some.inj H
      have p4 : 0 ≤ (x3_1 : Int) := of_decide_eq_true (by first | (with_reducible assumption) | assumption)
      have q4 : x3_1 < (a0.size : Int) := of_decide_eq_true (by first | (with_reducible assumption) | assumption)
      have hx4 := bt_at a0 x3_1
      replace p4 := eq_true p4
      replace q4 := eq_true q4
      go_wp2_with (first | ((with_reducible refine gate_callee (f := 81) rfl ?_); refine goesL_ (some 13) rfl rfl Tryz.func81 (by kernel_rfl) rfl #[.int .u8 (bt a0 x3_1)] rfl (by (try simp only [List.map_toArray, List.map_cons, List.map_nil]); first | done | rfl | (simp only [List.length_drop, List.length_take]; rfl)) ?_; (with_reducible refine (bastionref14_blank.calls (bt a0 x3_1) true _ A5.out).mono ?_); rintro e w' ⟨rfl, ⟨nd, rfl⟩⟩; refine ⟨_, rfl, ?_⟩))
      go_ret
      exact ⟨by first | rfl | (simp; done) | (simp [*]; done), by repeat (first | exact Drawn0.refl _ | apply Drawn0.step)⟩
     ·replace c6 := Bool.eq_false_iff.mpr c6
      subst c6
      have H1 : (if (bt a0 x3_1) = 59 then (some false) else (bastionref14_word.l0 k1 a0 (wrap64 (x3_1 + 1)))) = some r := by rw [if_neg (show ¬ (false = true) by decide)] at H; exact H
      clear H
      have H := H1
      clear H1
      by_cases c8 : (bt a0 x3_1) = 59
      ·rw [if_pos c8] at H
       have c8b0 : ((bt a0 x3_1) == 59) = true := beq_iff_eq.mpr c8
       have c8b1 : ((bt a0 x3_1) != 59) = false := bne_eq_false_iff_eq.mpr c8
       clear c8
       obtain rfl := Option.some.inj H
       have p4 : 0 ≤ (x3_1 : Int) := of_decide_eq_true (by first | (with_reducible assumption) | assumption)
       have q4 : x3_1 < (a0.size : Int) := of_decide_eq_true (by first | (with_reducible assumption) | assumption)
       have hx4 := bt_at a0 x3_1
       replace p4 := eq_true p4
       replace q4 := eq_true q4
       go_wp2_with (first | ((with_reducible refine gate_callee (f := 81) rfl ?_); refine goesL_ (some 13) rfl rfl Tryz.func81 (by kernel_rfl) rfl #[.int .u8 (bt a0 x3_1)] rfl (by (try simp only [List.map_toArray, List.map_cons, List.map_nil]); first | done | rfl | (simp only [List.length_drop, List.length_take]; rfl)) ?_; (with_reducible refine (bastionref14_blank.calls (bt a0 x3_1) false _ A5.out).mono ?_); rintro e w' ⟨rfl, ⟨nd, rfl⟩⟩; refine ⟨_, rfl, ?_⟩; have p7 : 0 ≤ (x3_1 : Int) := of_decide_eq_true (by first | (with_reducible assumption) | assumption); have q7 : x3_1 < (a0.size : Int) := of_decide_eq_true (by first | (with_reducible assumption) | assumption); have hx7 := bt_at a0 x3_1; replace p7 := eq_true p7; replace q7 := eq_true q7))
       go_ret
       exact ⟨by first | rfl | (simp; done) | (simp [*]; done), by repeat (first | exact Drawn0.refl _ | apply Drawn0.step)⟩
      ·rw [if_neg c8] at H
       have c8b0 : ((bt a0 x3_1) == 59) = false := beq_eq_false_iff_ne.mpr c8
       have c8b1 : ((bt a0 x3_1) != 59) = true := bne_iff_ne.mpr c8
       have H' := Aside0.mk H
       clear H
       have p4 : 0 ≤ (x3_1 : Int) := of_decide_eq_true (by first | (with_reducible assumption) | assumption)
       have q4 : x3_1 < (a0.size : Int) := of_decide_eq_true (by first | (with_reducible assumption) | assumption)
       have hx4 := bt_at a0 x3_1
       replace p4 := eq_true p4
       replace q4 := eq_true q4
       go_wp2_with (first | ((with_reducible refine gate_callee (f := 81) rfl ?_); refine goesL_ (some 13) rfl rfl Tryz.func81 (by kernel_rfl) rfl #[.int .u8 (bt a0 x3_1)] rfl (by (try simp only [List.map_toArray, List.map_cons, List.map_nil]); first | done | rfl | (simp only [List.length_drop, List.length_take]; rfl)) ?_; (with_reducible refine (bastionref14_blank.calls (bt a0 x3_1) false _ A5.out).mono ?_); rintro e w' ⟨rfl, ⟨nd, rfl⟩⟩; refine ⟨_, rfl, ?_⟩; have p7 : 0 ≤ (x3_1 : Int) := of_decide_eq_true (by first | (with_reducible assumption) | assumption); have q7 : x3_1 < (a0.size : Int) := of_decide_eq_true (by first | (with_reducible assumption) | assumption); have hx7 := bt_at a0 x3_1; replace p7 := eq_true p7; replace q7 := eq_true q7))
       go_roundg k1
       case measure => have := HK1.out; omega
       case rel => exact ⟨(wrap64 (x3_1 + 1)), (by first | rfl | (simp; done) | (simp [*]; done)), H', ⟨by have := HK1.out; omega⟩, by repeat (first | exact Drawn0.refl _ | apply Drawn0.step)⟩
    ·rw [if_neg c3] at H
     exact absurd H (by simp)
   ·rw [if_neg c2] at H
    have c2b0 : decide (x3_1 < (a0.size : Int)) = false := decide_eq_false c2
    clear c2
    obtain rfl := Option.some.inj H
    go_wp2
    go_ret
    exact ⟨by first | rfl | (simp; done) | (simp [*]; done), by repeat (first | exact Drawn0.refl _ | apply Drawn0.step)⟩
end Go.Proofs.YtnndgmbflkdhkaaGreatDoor.Q
end
