/- The stable sort of fields, walked: merging. -/
import Derived.Test.YtmjnipifpeehgaaDoorSRsE
set_option linter.unusedSimpArgs false
set_option linter.unusedVariables false
namespace Go.Proofs.YtmjnipifpeehgaaDoor.Q.I
open Go.RowKit Go.Proofs.YtmjnipifpeehgaaDoorW.PrintWords Go.Proofs.YtmjnipifpeehgaaDoorW.PrintLast Go.Proofs.YtmjnipifpeehgaaDoorW.PrintMore Go.Sort Go.Proofs.YtmjnipifpeehgaaDoor.St Go.Proofs.YtmjnipifpeehgaaDoor.Q
/-- the general step, told -/
def symG (lt : Int → Int → Bool) (f a m b st : Nat) (d : Array Int) : Array Int :=
  let mid := (a + b) / 2
  let en := mid + m - st
  let d1 := if st < m ∧ m < en then rot m (en - st + 1) (m - st) (en - m) d else d
  let d2 := if a < st ∧ st < mid then symM lt f a st mid d1 else d1
  if mid < en ∧ en < b then symM lt f mid en b d2 else d2
def sym0 (a m b : Nat) : Nat := if m > (a + b) / 2 then (a + b) / 2 + m - b else a
def symR (a m b : Nat) : Nat := if m > (a + b) / 2 then (a + b) / 2 else m
def symP (lt : Int → Int → Bool) (a m b : Nat) (d : Array Int) : Nat → Bool := fun c => !lt d[(a + b) / 2 + m - 1 - c]! d[c]!
def symS (lt : Int → Int → Bool) (a m b : Nat) (d : Array Int) : Nat := bs (symP lt a m b d) (symR a m b - sym0 a m b + 1) (sym0 a m b) (symR a m b)
theorem symM_gen (lt : Int → Int → Bool) (f a m b : Nat) (d : Array Int) (h1 : m - a ≠ 1) (h2 : b - m ≠ 1) : symM lt (f + 1) a m b d = symG lt f a m b (symS lt a m b d) d := by
  conv => lhs; unfold symM
  rw [if_neg h1, if_neg h2]
  rfl
theorem symM_one (lt : Int → Int → Bool) (f a m b : Nat) (d : Array Int) (h1 : m - a = 1) : symM lt (f + 1) a m b d = mvUp (bs (fun h => lt d[h]! d[a]!) (b - m + 1) m b - 1 - a) a d := by
  conv => lhs; unfold symM
  rw [if_pos h1]
theorem symM_two (lt : Int → Int → Bool) (f a m b : Nat) (d : Array Int) (h1 : m - a ≠ 1) (h2 : b - m = 1) : symM lt (f + 1) a m b d = mvDn (m - bs (fun h => !lt d[m]! d[h]!) (m - a + 1) a m) m d := by
  conv => lhs; unfold symM
  rw [if_neg h1, if_pos h2]
theorem symG_size (lt : Int → Int → Bool) (f a m b st : Nat) (d : Array Int) (ih : ∀ a m b (d : Array Int), (symM lt f a m b d).size = d.size) : (symG lt f a m b st d).size = d.size := by
  unfold symG
  simp only
  split <;> split <;> split <;> simp only [ih, rot_size]
theorem symM_size (lt : Int → Int → Bool) : ∀ (f a m b : Nat) (d : Array Int), (symM lt f a m b d).size = d.size
  | 0, _, _, _, d => rfl
  | f + 1, a, m, b, d => by
    by_cases h1 : m - a = 1
    · rw [symM_one lt f a m b d h1, mvUp_size]
    · by_cases h2 : b - m = 1
      · rw [symM_two lt f a m b d h1 h2, mvDn_size]
      · rw [symM_gen lt f a m b d h1 h2]; exact symG_size lt f a m b _ d (symM_size lt f)
theorem three (P Q : Prop) [Decidable P] [Decidable Q] : (P ∧ Q) ∨ (P ∧ ¬ Q) ∨ ¬ P := by
  by_cases h : P
  · by_cases h2 : Q
    · exact .inl ⟨h, h2⟩
    · exact .inr (.inl ⟨h, h2⟩)
  · exact .inr (.inr h)
set_option maxHeartbeats 16000000 in
set_option maxRecDepth 100000 in
theorem symGen_calls (base g o cap : Nat) (qz : Array Value) (hg : base ≤ g) (fq : Nat) (lb : Array Value) (c : Int → Int → Int) (eg : ∀ args w, (callFunc fq args).run Tryd.prog w = .ok (.enter fq args) w) (f : Nat)
    (ih : ∀ (d : Array Int) (a m b : Nat) (w : World), CmpF base w fq lb c → base ≤ w.heap.size → RowA g o qz w d → a < m → m < b → b ≤ d.size → b - a ≤ f → d.size ≤ 1099511627776 →
      Calls Tryd.prog 70 #[.slice (some ⟨g, o, none⟩) d.size cap, .int .i64 a, .int .i64 m, .int .i64 b, .func (.func fq) #[] lb] w fun e w' => e = .returned (.tuple #[]) ∧ RowA g o qz w' (symM (ltF c) f a m b d) ∧ Below base w w')
    (d0 : Array Int) (a m b : Nat) (w : World) (hcmp : CmpF base w fq lb c) (hbw : base ≤ w.heap.size) (hR : RowA g o qz w d0) (ham : a < m) (hmb : m < b) (h1 : m - a ≠ 1) (h2 : b - m ≠ 1) (hb : b ≤ d0.size) (hf : b - a ≤ f + 1) (hn : d0.size ≤ 1099511627776) :
    Calls Tryd.prog 70 #[.slice (some ⟨g, o, none⟩) d0.size cap, .int .i64 a, .int .i64 m, .int .i64 b, .func (.func fq) #[] lb] w fun e w' => e = .returned (.tuple #[]) ∧ RowA g o qz w' (symM (ltF c) (f + 1) a m b d0) ∧ Below base w w' := by
  rw [symM_gen (ltF c) f a m b d0 h1 h2]
  have HR := Lib.hid hR
  have HB0 := Lib.hid (Below.refl base w)
  have HC := Lib.hid hcmp
  obtain ⟨N, hN⟩ : ∃ N, N = d0.size := ⟨_, rfl⟩
  have HN := Lib.hid hN
  obtain ⟨mid, hmid⟩ : ∃ mid, mid = (a + b) / 2 := ⟨_, rfl⟩
  obtain ⟨n, hnn⟩ : ∃ n, n = mid + m := ⟨_, rfl⟩
  obtain ⟨s0, hs0⟩ : ∃ s0, s0 = sym0 a m b := ⟨_, rfl⟩
  obtain ⟨r0, hr0⟩ : ∃ r0, r0 = symR a m b := ⟨_, rfl⟩
  obtain ⟨p, hp⟩ : ∃ p, p = symP (ltF c) a m b d0 := ⟨_, rfl⟩
  obtain ⟨I, hI⟩ : ∃ I, I = symS (ltF c) a m b d0 := ⟨_, rfl⟩
  have hI' : I = bs p (r0 - s0 + 1) s0 r0 := by rw [hI, hp, hs0, hr0]; rfl
  have HP := Lib.hid (show ∀ q, p q = !ltF c d0[n - 1 - q]! d0[q]! by intro q; rw [hp, hnn, hmid]; rfl)
  have bnd : mid ≤ b ∧ a ≤ mid ∧ a + 1 ≤ mid ∧ mid + 1 ≤ b ∧ s0 ≤ r0 ∧ r0 ≤ m ∧ r0 ≤ mid ∧ a ≤ s0 ∧ n ≤ b + s0 ∧ n - r0 ≥ m ∧ n - r0 ≥ mid ∧ (mid < m → s0 + b = n ∧ r0 = mid) ∧ (¬ mid < m → s0 = a ∧ r0 = m) := by
    rw [hs0, hr0]
    unfold sym0 symR
    rw [← hmid]
    split <;> omega
  have hbsp := bs_spec p (r0 - s0 + 1) s0 r0 (by omega) (by omega)
  rw [← hI'] at hbsp
  have hib : s0 ≤ I ∧ I ≤ r0 := ⟨hbsp.1, hbsp.2.1⟩
  have HI := Lib.hid hI'
  have hG : symG (ltF c) f a m b I d0 = if mid < n - I ∧ n - I < b then symM (ltF c) f mid (n - I) b (if a < I ∧ I < mid then symM (ltF c) f a I mid (if I < m ∧ m < n - I then rot m (n - I - I + 1) (m - I) (n - I - m) d0 else d0) else (if I < m ∧ m < n - I then rot m (n - I - I + 1) (m - I) (n - I - m) d0 else d0)) else (if a < I ∧ I < mid then symM (ltF c) f a I mid (if I < m ∧ m < n - I then rot m (n - I - I + 1) (m - I) (n - I - m) d0 else d0) else (if I < m ∧ m < n - I then rot m (n - I - I + 1) (m - I) (n - I - m) d0 else d0)) := by
    unfold symG; rw [hnn, hmid]
  rw [← hI]
  have hrot : ∀ (W : World) (d : Array Int), Hid (RowA g o qz W d ∧ Below base w W ∧ d.size = N) → I < m → m < n - I → Calls Tryd.prog 82 #[.slice (some ⟨g, o, none⟩) N cap, .int .i64 I, .int .i64 m, .int .i64 (n - I : Nat), .func (.func fq) #[] lb] W fun e w' => e = .returned (.tuple #[]) ∧ Hid (RowA g o qz w' (rot m (n - I - I + 1) (m - I) (n - I - m) d) ∧ Below base w w' ∧ (rot m (n - I - I + 1) (m - I) (n - I - m) d).size = N) := by
    intro W d h k1 k2
    have := rotate_calls base g o cap qz hg (.func (.func fq) #[] lb) d I m (n - I) (n - I - I + 1) W (Nat.le_trans hbw h.out.2.1.size) h.out.1 k1 k2 (by rw [h.out.2.2]; omega) (by omega) (by rw [h.out.2.2]; omega)
    rw [h.out.2.2] at this
    exact this.mono (fun e w' ⟨q1, q2, q3⟩ => ⟨q1, Lib.hid ⟨q2, h.out.2.1.trans q3, by rw [rot_size]; exact h.out.2.2⟩⟩)
  have hsy1 : ∀ (W : World) (d : Array Int), Hid (RowA g o qz W d ∧ Below base w W ∧ d.size = N) → a < I → I < mid → Calls Tryd.prog 70 #[.slice (some ⟨g, o, none⟩) N cap, .int .i64 a, .int .i64 I, .int .i64 mid, .func (.func fq) #[] lb] W fun e w' => e = .returned (.tuple #[]) ∧ Hid (RowA g o qz w' (symM (ltF c) f a I mid d) ∧ Below base w w' ∧ (symM (ltF c) f a I mid d).size = N) := by
    intro W d h k1 k2
    have := ih d a I mid W (hcmp.shift h.out.2.1) (Nat.le_trans hbw h.out.2.1.size) h.out.1 k1 k2 (by rw [h.out.2.2]; omega) (by omega) (by rw [h.out.2.2]; omega)
    rw [h.out.2.2] at this
    exact this.mono (fun e w' ⟨q1, q2, q3⟩ => ⟨q1, Lib.hid ⟨q2, h.out.2.1.trans q3, by rw [symM_size]; exact h.out.2.2⟩⟩)
  have hsy2 : ∀ (W : World) (d : Array Int), Hid (RowA g o qz W d ∧ Below base w W ∧ d.size = N) → mid < n - I → n - I < b → Calls Tryd.prog 70 #[.slice (some ⟨g, o, none⟩) N cap, .int .i64 mid, .int .i64 (n - I : Nat), .int .i64 b, .func (.func fq) #[] lb] W fun e w' => e = .returned (.tuple #[]) ∧ Hid (RowA g o qz w' (symM (ltF c) f mid (n - I) b d) ∧ Below base w w' ∧ (symM (ltF c) f mid (n - I) b d).size = N) := by
    intro W d h k1 k2
    have := ih d mid (n - I) b W (hcmp.shift h.out.2.1) (Nat.le_trans hbw h.out.2.1.size) h.out.1 k1 k2 (by rw [h.out.2.2]; omega) (by omega) (by rw [h.out.2.2]; omega)
    rw [h.out.2.2] at this
    exact this.mono (fun e w' ⟨q1, q2, q3⟩ => ⟨q1, Lib.hid ⟨q2, h.out.2.1.trans q3, by rw [symM_size]; exact h.out.2.2⟩⟩)
  obtain ⟨E, hE⟩ : ∃ E, E = n - I := ⟨_, rfl⟩
  rw [← hE] at hrot hsy2 hG
  have HROT := Lib.hid hrot
  have HSY1 := Lib.hid hsy1
  have HSY2 := Lib.hid hsy2
  have HG := Lib.hid hG
  rw [← hN] at hb hn ⊢
  have BN := Lib.hid (And.intro bnd (And.intro hib (And.intro hnn (And.intro hb hn))))
  have wmid : ((a : Int) + (b : Int)) / 2 = (mid : Int) := by omega
  have wn : IntKind.i64.wrap ((mid : Int) + (m : Int)) = (n : Int) := (wrap_small _ (by clear wmid; omega) (by clear wmid; omega)).trans (by clear wmid; omega)
  obtain ⟨pp, hpp⟩ : ∃ pp, pp = n - 1 := ⟨_, rfl⟩
  have wp : IntKind.i64.wrap ((n : Int) - 1) = (pp : Int) := (wrap_small _ (by clear wmid wn; omega) (by clear wmid wn; omega)).trans (by clear wmid wn; omega)
  have e0 : ((m : Int) - (a : Int) == 1) = false := beq_eq_false_iff_ne.2 (by clear wmid wn wp; omega)
  have e1 : ((b : Int) - (m : Int) == 1) = false := beq_eq_false_iff_ne.2 (by clear wmid wn wp; omega)
  have z0 : ¬ (m : Int) - (a : Int) = 1 := by clear wmid wn wp; omega
  have z1 : ¬ (b : Int) - (m : Int) = 1 := by clear wmid wn wp; omega
  have HPP := Lib.hid hpp
  have HE := Lib.hid hE
  clear hE
  have srch : ∀ (i0 j0 : Nat), i0 = s0 → j0 = r0 → True := fun _ _ _ _ => trivial
  clear hR hcmp hN hmid hnn hs0 hr0 hp hI hI' hbsp hrot hsy1 hsy2 hG ih h1 h2 hpp srch
  have am : (a : Int) < (m : Int) ∧ (m : Int) < (b : Int) := by clear wmid wn wp; omega
  go_enter Tryd.func70, Tryd.ntmps70
  by_cases hmm : mid < m
  · have hs := BN.out.1.2.2.2.2.2.2.2.2.2.2.2.1 hmm
    have g1 : decide ((mid : Int) < (m : Int)) = true := decide_eq_true (by omega)
    have g2 : mid < m := hmm
    have ws : IntKind.i64.wrap ((n : Int) - (b : Int)) = (s0 : Int) := (wrap_small _ (by clear wmid wn wp; omega) (by clear wmid wn wp; omega)).trans (by clear wmid wn wp; omega)
    go_wp2
    clear ws g1 g2
    replace hs : (.int .i64 s0 : Value) = .int .i64 s0 ∧ (.int .i64 mid : Value) = .int .i64 r0 := ⟨rfl, by rw [hs.2]⟩
    go_loopg [20, 21] (r0 - s0) (fun gg v20 v21 wr => ∃ (i j ff : Nat), s0 ≤ i ∧ i ≤ j ∧ j ≤ r0 ∧ j - i < ff ∧ j - i ≤ gg ∧ v20 = .int .i64 i ∧ v21 = .int .i64 j ∧ Hid (bs p ff i j = I) ∧ Hid (RowA g o qz wr d0) ∧ Hid (Below base w wr))
    case atStart => exact ⟨s0, r0, r0 - s0 + 1, Nat.le_refl _, by omega, Nat.le_refl _, by omega, Nat.le_refl _, hs.1, hs.2, Lib.hid HI.out.symm, HR, HB0⟩
    case round =>
      clear HR HB0 HI hs
      obtain ⟨i, j, ff, q1, q2, q3, q4, q5, rfl, rfl, HD, HR, HB⟩ := hrel
      by_cases hij : i < j
      · have hijz : (i : Int) < (j : Int) := by omega
        obtain ⟨Y, eY⟩ : ∃ Y, Y = (i + j) / 2 := ⟨_, rfl⟩
        obtain ⟨X, eX⟩ : ∃ X, X = pp - Y := ⟨_, rfl⟩
        have hh : ((i : Int) + (j : Int)) / 2 = (Y : Int) := by clear wmid wn wp; omega
        have hxb : i ≤ Y ∧ Y < j ∧ Y + 1 ≤ j ∧ Y ≤ pp ∧ pp - Y < b := by have := HPP.out; clear wmid wn wp hh; omega
        have HGO := Lib.hid (bs_go p ff i j (by clear wmid wn wp hh; omega) hij)
        rw [← eY] at HGO
        have hPX : p Y = !ltF c d0[X]! d0[Y]! := by rw [HP.out, eX, HPP.out]
        have hX : X < d0.size := by rw [← HN.out]; clear wmid wn wp hh; omega
        have hY : Y < d0.size := by rw [← HN.out]; clear wmid wn wp hh; omega
        have lx : X < N := by clear wmid wn wp hh; omega
        have ly : Y < N := by clear wmid wn wp hh; omega
        have zx : 0 ≤ (X : Int) := by clear wmid wn wp hh; omega
        have zy : 0 ≤ (Y : Int) := by clear wmid wn wp hh; omega
        have kx : (X : Int) < (N : Int) := by clear wmid wn wp hh; omega
        have ky : (Y : Int) < (N : Int) := by clear wmid wn wp hh; omega
        obtain ⟨u, eU⟩ : ∃ u, d0[X]! = u := ⟨_, rfl⟩
        obtain ⟨v, eV⟩ : ∃ v, d0[Y]! = v := ⟨_, rfl⟩
        have hgd : g < wr.drew.heap.size := HR.out.lt
        have hRD := Aside0.mk (show RowA g o qz wr.drew d0 from ⟨HR.out.row, trivial⟩)
        have hBD := Aside0.mk (show Below base w wr.drew from HB.out.drew)
        have hc0 := hRD.out.cell hX eU
        have hc2 := hRD.out.cell hY eV
        have pu := hRD.out.el hX eU
        have pv := hRD.out.el hY eV
        rw [eU, eV] at hPX
        have nx1 : j - (Y + 1) < ff - 1 ∧ j - (Y + 1) ≤ gk - 1 ∧ s0 ≤ Y + 1 := by clear wmid wn wp hh; omega
        have nx2 : Y - i < ff - 1 ∧ Y - i ≤ gk - 1 ∧ Y ≤ r0 := by clear wmid wn wp hh; omega
        have mea : gk - 1 < gk := by clear wmid wn wp hh; omega
        have wX : IntKind.i64.wrap ((pp : Int) - (Y : Int)) = (X : Int) := (wrap_small _ (by clear wmid wn wp hh; omega) (by clear wmid wn wp hh; omega)).trans (by clear wmid wn wp hh; omega)
        clear HR HB eX eY
        cases hlt2 : ltF c u v with
        | true =>
          have hcl : decide (c u v < 0) = true := hlt2
          have HD2 := Lib.hid (show bs p (ff - 1) i Y = I by rw [← HD.out, HGO.out, hPX, hlt2, if_neg (by decide)])
          clear HD HGO hPX hlt2
          go_wp2_with fail
          -- REGION symCmpC1
          refine start_ (n := 14) (S := fun w' => w'.cell? ⟨g, o + X, none⟩ = some (.int .i32 u) ∧ w'.cell? ⟨g, o + Y, none⟩ = some (.int .i32 v)) (ds := []) #[false, false, false, false, false, false, false, false, false, false, false, false, false, false] (by kernel_rfl) rfl rfl ⟨(hc0), (hc2)⟩ (fun hHeld => ?_)
          generalize wr.drew = WD at *
          refine pure_ (i := 0) (N := some 158) (v := ?_) (a' := ?_) #[true, false, false, false, false, false, false, false, false, false, false, false, false, false] rfl rfl (by kernel_rfl) (fun _ _ _ h => h) (Or.inl ⟨by rfl, ?_⟩) ?_ ?_
          rotate_left
          · intro w'
            go_simp
            with_reducible rfl
          rotate_left
          · simp only [Act.put, List.setIfInBounds_toArray, List.set_cons_zero, List.set_cons_succ, i64_w, i32_w]
            rfl
          refine pure_ (i := 1) (N := some 159) (v := ?_) (a' := ?_) #[true, true, false, false, false, false, false, false, false, false, false, false, false, false] rfl rfl (by kernel_rfl) (fun _ _ _ h => h) (Or.inl ⟨by rfl, ?_⟩) ?_ ?_
          rotate_left
          · intro w'
            go_simp
            with_reducible rfl
          rotate_left
          · simp only [Act.put, List.setIfInBounds_toArray, List.set_cons_zero, List.set_cons_succ, i64_w, i32_w]
            rfl
          refine pure_ (i := 2) (N := some 160) (v := ?_) (a' := ?_) #[true, true, true, false, false, false, false, false, false, false, false, false, false, false] rfl rfl (by kernel_rfl) (fun _ _ _ h => h) (Or.inl ⟨by rfl, ?_⟩) ?_ ?_
          rotate_left
          · intro w'
            go_simp
            with_reducible rfl
          rotate_left
          · simp only [Act.put, List.setIfInBounds_toArray, List.set_cons_zero, List.set_cons_succ, i64_w, i32_w]
            rfl
          refine pure_ (i := 3) (N := some 161) (v := ?_) (a' := ?_) #[true, true, true, true, false, false, false, false, false, false, false, false, false, false] rfl rfl (by kernel_rfl) (fun _ _ _ h => h) (Or.inl ⟨by rfl, ?_⟩) ?_ ?_
          rotate_left
          · intro w'
            go_simp
            with_reducible rfl
          rotate_left
          · simp only [Act.put, List.setIfInBounds_toArray, List.set_cons_zero, List.set_cons_succ, i64_w, i32_w]
            rfl
          refine pure_ (i := 4) (N := some 162) (v := ?_) (a' := ?_) #[true, true, true, true, true, false, false, false, false, false, false, false, false, false] rfl rfl (by kernel_rfl) (fun _ _ _ h => h) (Or.inl ⟨by rfl, ?_⟩) ?_ ?_
          rotate_left
          · intro w'
            go_simp
            with_reducible rfl
          rotate_left
          · simp only [Act.put, List.setIfInBounds_toArray, List.set_cons_zero, List.set_cons_succ, i64_w, i32_w]
            rfl
          refine pure_ (i := 5) (N := some 163) (v := ?_) (a' := ?_) #[true, true, true, true, true, true, false, false, false, false, false, false, false, false] rfl rfl (by kernel_rfl) (fun _ _ _ h => h) (Or.inl ⟨by rfl, ?_⟩) ?_ ?_
          rotate_left
          · intro w'
            go_simp
            with_reducible rfl
          rotate_left
          · simp only [Act.put, List.setIfInBounds_toArray, List.set_cons_zero, List.set_cons_succ, i64_w, i32_w]
            rfl
          refine pure_ (i := 7) (N := some 165) (v := ?_) (a' := ?_) #[true, true, true, true, true, true, false, true, false, false, false, false, false, false] rfl rfl (by kernel_rfl) (fun _ _ _ h => h) (Or.inl ⟨by rfl, ?_⟩) ?_ ?_
          rotate_left
          · intro w'
            go_simp
            with_reducible rfl
          rotate_left
          · simp only [Act.put, List.setIfInBounds_toArray, List.set_cons_zero, List.set_cons_succ, i64_w, i32_w]
            rfl
          refine pure_ (i := 8) (N := some 166) (v := ?_) (a' := ?_) #[true, true, true, true, true, true, false, true, true, false, false, false, false, false] rfl rfl (by kernel_rfl) (fun _ _ _ h => h) (Or.inl ⟨by rfl, ?_⟩) ?_ ?_
          rotate_left
          · intro w'
            go_simp
            with_reducible rfl
          rotate_left
          · simp only [Act.put, List.setIfInBounds_toArray, List.set_cons_zero, List.set_cons_succ, i64_w, i32_w]
            rfl
          refine pure_ (i := 9) (N := some 167) (v := ?_) (a' := ?_) #[true, true, true, true, true, true, false, true, true, true, false, false, false, false] rfl rfl (by kernel_rfl) (fun _ _ _ h => h) (Or.inl ⟨by rfl, ?_⟩) ?_ ?_
          rotate_left
          · intro w'
            go_simp
            with_reducible rfl
          rotate_left
          · simp only [Act.put, List.setIfInBounds_toArray, List.set_cons_zero, List.set_cons_succ, i64_w, i32_w]
            rfl
          refine take_ (i := 6) (N := some 164) (v := ?_) (a' := ?_) #[true, true, true, true, true, true, true, true, true, true, false, false, false, false] rfl rfl (by kernel_rfl) (fun _ _ _ h => h) (Or.inl ⟨by rfl, ?_⟩) hHeld ?_ ?_
          rotate_left
          · rintro w' ⟨s0, s2⟩
            go_simp
            with_reducible rfl
          rotate_left
          · simp only [Act.put, List.setIfInBounds_toArray, List.set_cons_zero, List.set_cons_succ, i64_w, i32_w]
            rfl
          refine take_ (i := 10) (N := some 168) (v := ?_) (a' := ?_) #[true, true, true, true, true, true, true, true, true, true, true, false, false, false] rfl rfl (by kernel_rfl) (fun _ _ _ h => h) (Or.inl ⟨by rfl, ?_⟩) hHeld ?_ ?_
          rotate_left
          · rintro w' ⟨s0, s2⟩
            go_simp
            with_reducible rfl
          rotate_left
          · simp only [Act.put, List.setIfInBounds_toArray, List.set_cons_zero, List.set_cons_succ, i64_w, i32_w]
            rfl
          refine one_ (i := 11) (N := some 169) #[true, true, true, true, true, true, true, true, true, true, true, true, false, false] rfl rfl (by kernel_rfl) (by decide) (fun K hK => ?_)
          refine call_ fq (#[.int .i32 u, .int .i32 v] ++ lb) (by rfl) rfl ?_ ?_
          · go_simp
            try rfl
          with_reducible refine (HC.out _ u v hBD.out pu.out pv.out).mono ?_
          rintro e w3 ⟨rfl, hb⟩
          refine ⟨_, rfl, ?_⟩
          have HBB := Aside0.mk hb
          clear hb
          refine hK.out _ _ ⟨((HBB.out.cell hgd).trans hc0), ((HBB.out.cell hgd).trans hc2)⟩ (fun hHeld => ?_)
          clear hK K
          refine norm_ (a' := ?_) ?_ ?_
          rotate_left
          · show Act.put _ (some 169) _ = _
            simp only [Act.put, List.setIfInBounds_toArray, List.set_cons_zero, List.set_cons_succ, i64_w, i32_w]
            rfl
          refine pure_ (i := 12) (N := some 170) (v := ?_) (a' := ?_) #[true, true, true, true, true, true, true, true, true, true, true, true, true, false] rfl rfl (by kernel_rfl) (fun _ _ _ h => h) (Or.inl ⟨by rfl, ?_⟩) ?_ ?_
          rotate_left
          · intro w'
            go_simp
            with_reducible rfl
          rotate_left
          · simp only [Act.put, List.setIfInBounds_toArray, List.set_cons_zero, List.set_cons_succ, i64_w, i32_w]
            rfl
          refine pure_ (i := 13) (N := some 171) (v := ?_) (a' := ?_) #[true, true, true, true, true, true, true, true, true, true, true, true, true, true] rfl rfl (by kernel_rfl) (fun _ _ _ h => h) (Or.inl ⟨by rfl, ?_⟩) ?_ ?_
          rotate_left
          · intro w'
            go_simp
            with_reducible rfl
          rotate_left
          · simp only [Act.put, List.setIfInBounds_toArray, List.set_cons_zero, List.set_cons_succ, i64_w, i32_w]
            rfl
          refine done_ (by kernel_rfl) ?_
          -- END REGION symCmpC1
          have hR3 := Aside0.mk (hRD.out.below HBB.out)
          have hB3 := Aside0.mk (hBD.out.trans (HBB.out.mono (Nat.le_trans hbw hBD.out.size)))
          clear hRD hBD HBB hHeld hgd hc0 hc2
          go_wp2
          go_roundg (gk - 1)
          case measure => exact mea
          case rel => exact ⟨i, Y, ff - 1, q1, hxb.1, nx2.2.2, nx2.1, nx2.2.1, rfl, rfl, HD2, Lib.hid hR3.out, Lib.hid hB3.out⟩
        | false =>
          have hcl : decide (c u v < 0) = false := hlt2
          have HD2 := Lib.hid (show bs p (ff - 1) (Y + 1) j = I by rw [← HD.out, HGO.out, hPX, hlt2, if_pos (by decide)])
          clear HD HGO hPX hlt2
          go_wp2_with fail
          -- REGION symCmpC2
          refine start_ (n := 14) (S := fun w' => w'.cell? ⟨g, o + X, none⟩ = some (.int .i32 u) ∧ w'.cell? ⟨g, o + Y, none⟩ = some (.int .i32 v)) (ds := []) #[false, false, false, false, false, false, false, false, false, false, false, false, false, false] (by kernel_rfl) rfl rfl ⟨(hc0), (hc2)⟩ (fun hHeld => ?_)
          generalize wr.drew = WD at *
          refine pure_ (i := 0) (N := some 158) (v := ?_) (a' := ?_) #[true, false, false, false, false, false, false, false, false, false, false, false, false, false] rfl rfl (by kernel_rfl) (fun _ _ _ h => h) (Or.inl ⟨by rfl, ?_⟩) ?_ ?_
          rotate_left
          · intro w'
            go_simp
            with_reducible rfl
          rotate_left
          · simp only [Act.put, List.setIfInBounds_toArray, List.set_cons_zero, List.set_cons_succ, i64_w, i32_w]
            rfl
          refine pure_ (i := 1) (N := some 159) (v := ?_) (a' := ?_) #[true, true, false, false, false, false, false, false, false, false, false, false, false, false] rfl rfl (by kernel_rfl) (fun _ _ _ h => h) (Or.inl ⟨by rfl, ?_⟩) ?_ ?_
          rotate_left
          · intro w'
            go_simp
            with_reducible rfl
          rotate_left
          · simp only [Act.put, List.setIfInBounds_toArray, List.set_cons_zero, List.set_cons_succ, i64_w, i32_w]
            rfl
          refine pure_ (i := 2) (N := some 160) (v := ?_) (a' := ?_) #[true, true, true, false, false, false, false, false, false, false, false, false, false, false] rfl rfl (by kernel_rfl) (fun _ _ _ h => h) (Or.inl ⟨by rfl, ?_⟩) ?_ ?_
          rotate_left
          · intro w'
            go_simp
            with_reducible rfl
          rotate_left
          · simp only [Act.put, List.setIfInBounds_toArray, List.set_cons_zero, List.set_cons_succ, i64_w, i32_w]
            rfl
          refine pure_ (i := 3) (N := some 161) (v := ?_) (a' := ?_) #[true, true, true, true, false, false, false, false, false, false, false, false, false, false] rfl rfl (by kernel_rfl) (fun _ _ _ h => h) (Or.inl ⟨by rfl, ?_⟩) ?_ ?_
          rotate_left
          · intro w'
            go_simp
            with_reducible rfl
          rotate_left
          · simp only [Act.put, List.setIfInBounds_toArray, List.set_cons_zero, List.set_cons_succ, i64_w, i32_w]
            rfl
          refine pure_ (i := 4) (N := some 162) (v := ?_) (a' := ?_) #[true, true, true, true, true, false, false, false, false, false, false, false, false, false] rfl rfl (by kernel_rfl) (fun _ _ _ h => h) (Or.inl ⟨by rfl, ?_⟩) ?_ ?_
          rotate_left
          · intro w'
            go_simp
            with_reducible rfl
          rotate_left
          · simp only [Act.put, List.setIfInBounds_toArray, List.set_cons_zero, List.set_cons_succ, i64_w, i32_w]
            rfl
          refine pure_ (i := 5) (N := some 163) (v := ?_) (a' := ?_) #[true, true, true, true, true, true, false, false, false, false, false, false, false, false] rfl rfl (by kernel_rfl) (fun _ _ _ h => h) (Or.inl ⟨by rfl, ?_⟩) ?_ ?_
          rotate_left
          · intro w'
            go_simp
            with_reducible rfl
          rotate_left
          · simp only [Act.put, List.setIfInBounds_toArray, List.set_cons_zero, List.set_cons_succ, i64_w, i32_w]
            rfl
          refine pure_ (i := 7) (N := some 165) (v := ?_) (a' := ?_) #[true, true, true, true, true, true, false, true, false, false, false, false, false, false] rfl rfl (by kernel_rfl) (fun _ _ _ h => h) (Or.inl ⟨by rfl, ?_⟩) ?_ ?_
          rotate_left
          · intro w'
            go_simp
            with_reducible rfl
          rotate_left
          · simp only [Act.put, List.setIfInBounds_toArray, List.set_cons_zero, List.set_cons_succ, i64_w, i32_w]
            rfl
          refine pure_ (i := 8) (N := some 166) (v := ?_) (a' := ?_) #[true, true, true, true, true, true, false, true, true, false, false, false, false, false] rfl rfl (by kernel_rfl) (fun _ _ _ h => h) (Or.inl ⟨by rfl, ?_⟩) ?_ ?_
          rotate_left
          · intro w'
            go_simp
            with_reducible rfl
          rotate_left
          · simp only [Act.put, List.setIfInBounds_toArray, List.set_cons_zero, List.set_cons_succ, i64_w, i32_w]
            rfl
          refine pure_ (i := 9) (N := some 167) (v := ?_) (a' := ?_) #[true, true, true, true, true, true, false, true, true, true, false, false, false, false] rfl rfl (by kernel_rfl) (fun _ _ _ h => h) (Or.inl ⟨by rfl, ?_⟩) ?_ ?_
          rotate_left
          · intro w'
            go_simp
            with_reducible rfl
          rotate_left
          · simp only [Act.put, List.setIfInBounds_toArray, List.set_cons_zero, List.set_cons_succ, i64_w, i32_w]
            rfl
          refine take_ (i := 6) (N := some 164) (v := ?_) (a' := ?_) #[true, true, true, true, true, true, true, true, true, true, false, false, false, false] rfl rfl (by kernel_rfl) (fun _ _ _ h => h) (Or.inl ⟨by rfl, ?_⟩) hHeld ?_ ?_
          rotate_left
          · rintro w' ⟨s0, s2⟩
            go_simp
            with_reducible rfl
          rotate_left
          · simp only [Act.put, List.setIfInBounds_toArray, List.set_cons_zero, List.set_cons_succ, i64_w, i32_w]
            rfl
          refine take_ (i := 10) (N := some 168) (v := ?_) (a' := ?_) #[true, true, true, true, true, true, true, true, true, true, true, false, false, false] rfl rfl (by kernel_rfl) (fun _ _ _ h => h) (Or.inl ⟨by rfl, ?_⟩) hHeld ?_ ?_
          rotate_left
          · rintro w' ⟨s0, s2⟩
            go_simp
            with_reducible rfl
          rotate_left
          · simp only [Act.put, List.setIfInBounds_toArray, List.set_cons_zero, List.set_cons_succ, i64_w, i32_w]
            rfl
          refine one_ (i := 11) (N := some 169) #[true, true, true, true, true, true, true, true, true, true, true, true, false, false] rfl rfl (by kernel_rfl) (by decide) (fun K hK => ?_)
          refine call_ fq (#[.int .i32 u, .int .i32 v] ++ lb) (by rfl) rfl ?_ ?_
          · go_simp
            try rfl
          with_reducible refine (HC.out _ u v hBD.out pu.out pv.out).mono ?_
          rintro e w3 ⟨rfl, hb⟩
          refine ⟨_, rfl, ?_⟩
          have HBB := Aside0.mk hb
          clear hb
          refine hK.out _ _ ⟨((HBB.out.cell hgd).trans hc0), ((HBB.out.cell hgd).trans hc2)⟩ (fun hHeld => ?_)
          clear hK K
          refine norm_ (a' := ?_) ?_ ?_
          rotate_left
          · show Act.put _ (some 169) _ = _
            simp only [Act.put, List.setIfInBounds_toArray, List.set_cons_zero, List.set_cons_succ, i64_w, i32_w]
            rfl
          refine pure_ (i := 12) (N := some 170) (v := ?_) (a' := ?_) #[true, true, true, true, true, true, true, true, true, true, true, true, true, false] rfl rfl (by kernel_rfl) (fun _ _ _ h => h) (Or.inl ⟨by rfl, ?_⟩) ?_ ?_
          rotate_left
          · intro w'
            go_simp
            with_reducible rfl
          rotate_left
          · simp only [Act.put, List.setIfInBounds_toArray, List.set_cons_zero, List.set_cons_succ, i64_w, i32_w]
            rfl
          refine pure_ (i := 13) (N := some 171) (v := ?_) (a' := ?_) #[true, true, true, true, true, true, true, true, true, true, true, true, true, true] rfl rfl (by kernel_rfl) (fun _ _ _ h => h) (Or.inl ⟨by rfl, ?_⟩) ?_ ?_
          rotate_left
          · intro w'
            go_simp
            with_reducible rfl
          rotate_left
          · simp only [Act.put, List.setIfInBounds_toArray, List.set_cons_zero, List.set_cons_succ, i64_w, i32_w]
            rfl
          refine done_ (by kernel_rfl) ?_
          -- END REGION symCmpC2
          have hR3 := Aside0.mk (hRD.out.below HBB.out)
          have hB3 := Aside0.mk (hBD.out.trans (HBB.out.mono (Nat.le_trans hbw hBD.out.size)))
          clear hRD hBD HBB hHeld hgd hc0 hc2
          go_wp2
          go_roundg (gk - 1)
          case measure => exact mea
          case rel => exact ⟨Y + 1, j, ff - 1, nx1.2.2, hxb.2.2.1, q3, nx1.1, nx1.2.1, by first | rfl | (clear wX wmid wn wp hh; go_num), rfl, HD2, Lib.hid hR3.out, Lib.hid hB3.out⟩
      · have hijz : ¬ (i : Int) < (j : Int) := by omega
        have hiI : I = i := ((bs_end p ff i j (by omega) hij).symm.trans HD.out).symm
        subst hiI
        have hEE := HE.out
        have wE : IntKind.i64.wrap ((n : Int) - (I : Int)) = (E : Int) := (wrap_small _ (by clear wmid wn wp; omega) (by clear wmid wn wp; omega)).trans (by clear wmid wn wp; omega)
        have HS := Lib.hid (And.intro HR.out (And.intro HB.out HN.out.symm))
        clear HD q4 q5 HR HB wmid wn wp hEE
        -- TAIL
        rcases three (I < m) (m < E) with kR | kR | kR
        · skip
          rcases three (a < I) (I < mid) with kS | kS | kS
          · skip
            rcases three (mid < E) (E < b) with kT | kT | kT
            · skip
              have Rp1 : decide ((I : Int) < (m : Int)) = true := decide_eq_true (by omega)
              have Rp2 : (I : Int) < (m : Int) := by omega
              have Rq1 : decide ((m : Int) < (E : Int)) = true := decide_eq_true (by omega)
              have Rq2 : (m : Int) < (E : Int) := by omega
              have Sp1 : decide ((a : Int) < (I : Int)) = true := decide_eq_true (by omega)
              have Sp2 : (a : Int) < (I : Int) := by omega
              have Sq1 : decide ((I : Int) < (mid : Int)) = true := decide_eq_true (by omega)
              have Sq2 : (I : Int) < (mid : Int) := by omega
              have Tp1 : decide ((mid : Int) < (E : Int)) = true := decide_eq_true (by omega)
              have Tp2 : (mid : Int) < (E : Int) := by omega
              have Tq1 : decide ((E : Int) < (b : Int)) = true := decide_eq_true (by omega)
              have Tq2 : (E : Int) < (b : Int) := by omega
              go_wp2_with fail
              refine (HROT.out _ _ HS kR.1 kR.2).mono ?_
              rintro e WR ⟨rfl, hSR⟩
              clear HS
              have HS := hSR
              clear hSR
              go_wp2_with fail
              refine (HSY1.out _ _ HS kS.1 kS.2).mono ?_
              rintro e WS ⟨rfl, hSS⟩
              clear HS
              have HS := hSS
              clear hSS
              go_wp2_with fail
              refine (HSY2.out _ _ HS kT.1 kT.2).mono ?_
              rintro e WT ⟨rfl, hST⟩
              clear HS
              have HS := hST
              clear hST
              go_wp2
              go_end0
              exact ⟨rfl, by rw [HG.out, if_pos kT, if_pos kS, if_pos kR]; exact HS.out.1, HS.out.2.1⟩
            · skip
              have Rp1 : decide ((I : Int) < (m : Int)) = true := decide_eq_true (by omega)
              have Rp2 : (I : Int) < (m : Int) := by omega
              have Rq1 : decide ((m : Int) < (E : Int)) = true := decide_eq_true (by omega)
              have Rq2 : (m : Int) < (E : Int) := by omega
              have Sp1 : decide ((a : Int) < (I : Int)) = true := decide_eq_true (by omega)
              have Sp2 : (a : Int) < (I : Int) := by omega
              have Sq1 : decide ((I : Int) < (mid : Int)) = true := decide_eq_true (by omega)
              have Sq2 : (I : Int) < (mid : Int) := by omega
              have Tp1 : decide ((mid : Int) < (E : Int)) = true := decide_eq_true (by omega)
              have Tp2 : (mid : Int) < (E : Int) := by omega
              have Tq1 : decide ((E : Int) < (b : Int)) = false := decide_eq_false (by omega)
              have Tq2 : ¬ E < b := by omega
              have Tq3 : ¬ (E : Int) < (b : Int) := by omega
              go_wp2_with fail
              refine (HROT.out _ _ HS kR.1 kR.2).mono ?_
              rintro e WR ⟨rfl, hSR⟩
              clear HS
              have HS := hSR
              clear hSR
              go_wp2_with fail
              refine (HSY1.out _ _ HS kS.1 kS.2).mono ?_
              rintro e WS ⟨rfl, hSS⟩
              clear HS
              have HS := hSS
              clear hSS
              go_wp2
              go_end0
              exact ⟨rfl, by rw [HG.out, if_neg (show ¬ (mid < E ∧ E < b) by omega), if_pos kS, if_pos kR]; exact HS.out.1, HS.out.2.1⟩
            · skip
              have Rp1 : decide ((I : Int) < (m : Int)) = true := decide_eq_true (by omega)
              have Rp2 : (I : Int) < (m : Int) := by omega
              have Rq1 : decide ((m : Int) < (E : Int)) = true := decide_eq_true (by omega)
              have Rq2 : (m : Int) < (E : Int) := by omega
              have Sp1 : decide ((a : Int) < (I : Int)) = true := decide_eq_true (by omega)
              have Sp2 : (a : Int) < (I : Int) := by omega
              have Sq1 : decide ((I : Int) < (mid : Int)) = true := decide_eq_true (by omega)
              have Sq2 : (I : Int) < (mid : Int) := by omega
              have Tp1 : decide ((mid : Int) < (E : Int)) = false := decide_eq_false (by omega)
              have Tp2 : ¬ mid < E := by omega
              have Tp3 : ¬ (mid : Int) < (E : Int) := by omega
              go_wp2_with fail
              refine (HROT.out _ _ HS kR.1 kR.2).mono ?_
              rintro e WR ⟨rfl, hSR⟩
              clear HS
              have HS := hSR
              clear hSR
              go_wp2_with fail
              refine (HSY1.out _ _ HS kS.1 kS.2).mono ?_
              rintro e WS ⟨rfl, hSS⟩
              clear HS
              have HS := hSS
              clear hSS
              go_wp2
              go_end0
              exact ⟨rfl, by rw [HG.out, if_neg (show ¬ (mid < E ∧ E < b) by omega), if_pos kS, if_pos kR]; exact HS.out.1, HS.out.2.1⟩
          · skip
            rcases three (mid < E) (E < b) with kT | kT | kT
            · skip
              have Rp1 : decide ((I : Int) < (m : Int)) = true := decide_eq_true (by omega)
              have Rp2 : (I : Int) < (m : Int) := by omega
              have Rq1 : decide ((m : Int) < (E : Int)) = true := decide_eq_true (by omega)
              have Rq2 : (m : Int) < (E : Int) := by omega
              have Sp1 : decide ((a : Int) < (I : Int)) = true := decide_eq_true (by omega)
              have Sp2 : (a : Int) < (I : Int) := by omega
              have Sq1 : decide ((I : Int) < (mid : Int)) = false := decide_eq_false (by omega)
              have Sq2 : ¬ I < mid := by omega
              have Sq3 : ¬ (I : Int) < (mid : Int) := by omega
              have Tp1 : decide ((mid : Int) < (E : Int)) = true := decide_eq_true (by omega)
              have Tp2 : (mid : Int) < (E : Int) := by omega
              have Tq1 : decide ((E : Int) < (b : Int)) = true := decide_eq_true (by omega)
              have Tq2 : (E : Int) < (b : Int) := by omega
              go_wp2_with fail
              refine (HROT.out _ _ HS kR.1 kR.2).mono ?_
              rintro e WR ⟨rfl, hSR⟩
              clear HS
              have HS := hSR
              clear hSR
              go_wp2_with fail
              refine (HSY2.out _ _ HS kT.1 kT.2).mono ?_
              rintro e WT ⟨rfl, hST⟩
              clear HS
              have HS := hST
              clear hST
              go_wp2
              go_end0
              exact ⟨rfl, by rw [HG.out, if_pos kT, if_neg (show ¬ (a < I ∧ I < mid) by omega), if_pos kR]; exact HS.out.1, HS.out.2.1⟩
            · skip
              have Rp1 : decide ((I : Int) < (m : Int)) = true := decide_eq_true (by omega)
              have Rp2 : (I : Int) < (m : Int) := by omega
              have Rq1 : decide ((m : Int) < (E : Int)) = true := decide_eq_true (by omega)
              have Rq2 : (m : Int) < (E : Int) := by omega
              have Sp1 : decide ((a : Int) < (I : Int)) = true := decide_eq_true (by omega)
              have Sp2 : (a : Int) < (I : Int) := by omega
              have Sq1 : decide ((I : Int) < (mid : Int)) = false := decide_eq_false (by omega)
              have Sq2 : ¬ I < mid := by omega
              have Sq3 : ¬ (I : Int) < (mid : Int) := by omega
              have Tp1 : decide ((mid : Int) < (E : Int)) = true := decide_eq_true (by omega)
              have Tp2 : (mid : Int) < (E : Int) := by omega
              have Tq1 : decide ((E : Int) < (b : Int)) = false := decide_eq_false (by omega)
              have Tq2 : ¬ E < b := by omega
              have Tq3 : ¬ (E : Int) < (b : Int) := by omega
              go_wp2_with fail
              refine (HROT.out _ _ HS kR.1 kR.2).mono ?_
              rintro e WR ⟨rfl, hSR⟩
              clear HS
              have HS := hSR
              clear hSR
              go_wp2
              go_end0
              exact ⟨rfl, by rw [HG.out, if_neg (show ¬ (mid < E ∧ E < b) by omega), if_neg (show ¬ (a < I ∧ I < mid) by omega), if_pos kR]; exact HS.out.1, HS.out.2.1⟩
            · skip
              have Rp1 : decide ((I : Int) < (m : Int)) = true := decide_eq_true (by omega)
              have Rp2 : (I : Int) < (m : Int) := by omega
              have Rq1 : decide ((m : Int) < (E : Int)) = true := decide_eq_true (by omega)
              have Rq2 : (m : Int) < (E : Int) := by omega
              have Sp1 : decide ((a : Int) < (I : Int)) = true := decide_eq_true (by omega)
              have Sp2 : (a : Int) < (I : Int) := by omega
              have Sq1 : decide ((I : Int) < (mid : Int)) = false := decide_eq_false (by omega)
              have Sq2 : ¬ I < mid := by omega
              have Sq3 : ¬ (I : Int) < (mid : Int) := by omega
              have Tp1 : decide ((mid : Int) < (E : Int)) = false := decide_eq_false (by omega)
              have Tp2 : ¬ mid < E := by omega
              have Tp3 : ¬ (mid : Int) < (E : Int) := by omega
              go_wp2_with fail
              refine (HROT.out _ _ HS kR.1 kR.2).mono ?_
              rintro e WR ⟨rfl, hSR⟩
              clear HS
              have HS := hSR
              clear hSR
              go_wp2
              go_end0
              exact ⟨rfl, by rw [HG.out, if_neg (show ¬ (mid < E ∧ E < b) by omega), if_neg (show ¬ (a < I ∧ I < mid) by omega), if_pos kR]; exact HS.out.1, HS.out.2.1⟩
          · skip
            rcases three (mid < E) (E < b) with kT | kT | kT
            · skip
              have Rp1 : decide ((I : Int) < (m : Int)) = true := decide_eq_true (by omega)
              have Rp2 : (I : Int) < (m : Int) := by omega
              have Rq1 : decide ((m : Int) < (E : Int)) = true := decide_eq_true (by omega)
              have Rq2 : (m : Int) < (E : Int) := by omega
              have Sp1 : decide ((a : Int) < (I : Int)) = false := decide_eq_false (by omega)
              have Sp2 : ¬ a < I := by omega
              have Sp3 : ¬ (a : Int) < (I : Int) := by omega
              have Tp1 : decide ((mid : Int) < (E : Int)) = true := decide_eq_true (by omega)
              have Tp2 : (mid : Int) < (E : Int) := by omega
              have Tq1 : decide ((E : Int) < (b : Int)) = true := decide_eq_true (by omega)
              have Tq2 : (E : Int) < (b : Int) := by omega
              go_wp2_with fail
              refine (HROT.out _ _ HS kR.1 kR.2).mono ?_
              rintro e WR ⟨rfl, hSR⟩
              clear HS
              have HS := hSR
              clear hSR
              go_wp2_with fail
              refine (HSY2.out _ _ HS kT.1 kT.2).mono ?_
              rintro e WT ⟨rfl, hST⟩
              clear HS
              have HS := hST
              clear hST
              go_wp2
              go_end0
              exact ⟨rfl, by rw [HG.out, if_pos kT, if_neg (show ¬ (a < I ∧ I < mid) by omega), if_pos kR]; exact HS.out.1, HS.out.2.1⟩
            · skip
              have Rp1 : decide ((I : Int) < (m : Int)) = true := decide_eq_true (by omega)
              have Rp2 : (I : Int) < (m : Int) := by omega
              have Rq1 : decide ((m : Int) < (E : Int)) = true := decide_eq_true (by omega)
              have Rq2 : (m : Int) < (E : Int) := by omega
              have Sp1 : decide ((a : Int) < (I : Int)) = false := decide_eq_false (by omega)
              have Sp2 : ¬ a < I := by omega
              have Sp3 : ¬ (a : Int) < (I : Int) := by omega
              have Tp1 : decide ((mid : Int) < (E : Int)) = true := decide_eq_true (by omega)
              have Tp2 : (mid : Int) < (E : Int) := by omega
              have Tq1 : decide ((E : Int) < (b : Int)) = false := decide_eq_false (by omega)
              have Tq2 : ¬ E < b := by omega
              have Tq3 : ¬ (E : Int) < (b : Int) := by omega
              go_wp2_with fail
              refine (HROT.out _ _ HS kR.1 kR.2).mono ?_
              rintro e WR ⟨rfl, hSR⟩
              clear HS
              have HS := hSR
              clear hSR
              go_wp2
              go_end0
              exact ⟨rfl, by rw [HG.out, if_neg (show ¬ (mid < E ∧ E < b) by omega), if_neg (show ¬ (a < I ∧ I < mid) by omega), if_pos kR]; exact HS.out.1, HS.out.2.1⟩
            · skip
              have Rp1 : decide ((I : Int) < (m : Int)) = true := decide_eq_true (by omega)
              have Rp2 : (I : Int) < (m : Int) := by omega
              have Rq1 : decide ((m : Int) < (E : Int)) = true := decide_eq_true (by omega)
              have Rq2 : (m : Int) < (E : Int) := by omega
              have Sp1 : decide ((a : Int) < (I : Int)) = false := decide_eq_false (by omega)
              have Sp2 : ¬ a < I := by omega
              have Sp3 : ¬ (a : Int) < (I : Int) := by omega
              have Tp1 : decide ((mid : Int) < (E : Int)) = false := decide_eq_false (by omega)
              have Tp2 : ¬ mid < E := by omega
              have Tp3 : ¬ (mid : Int) < (E : Int) := by omega
              go_wp2_with fail
              refine (HROT.out _ _ HS kR.1 kR.2).mono ?_
              rintro e WR ⟨rfl, hSR⟩
              clear HS
              have HS := hSR
              clear hSR
              go_wp2
              go_end0
              exact ⟨rfl, by rw [HG.out, if_neg (show ¬ (mid < E ∧ E < b) by omega), if_neg (show ¬ (a < I ∧ I < mid) by omega), if_pos kR]; exact HS.out.1, HS.out.2.1⟩
        · skip
          rcases three (a < I) (I < mid) with kS | kS | kS
          · skip
            rcases three (mid < E) (E < b) with kT | kT | kT
            · skip
              have Rp1 : decide ((I : Int) < (m : Int)) = true := decide_eq_true (by omega)
              have Rp2 : (I : Int) < (m : Int) := by omega
              have Rq1 : decide ((m : Int) < (E : Int)) = false := decide_eq_false (by omega)
              have Rq2 : ¬ m < E := by omega
              have Rq3 : ¬ (m : Int) < (E : Int) := by omega
              have Sp1 : decide ((a : Int) < (I : Int)) = true := decide_eq_true (by omega)
              have Sp2 : (a : Int) < (I : Int) := by omega
              have Sq1 : decide ((I : Int) < (mid : Int)) = true := decide_eq_true (by omega)
              have Sq2 : (I : Int) < (mid : Int) := by omega
              have Tp1 : decide ((mid : Int) < (E : Int)) = true := decide_eq_true (by omega)
              have Tp2 : (mid : Int) < (E : Int) := by omega
              have Tq1 : decide ((E : Int) < (b : Int)) = true := decide_eq_true (by omega)
              have Tq2 : (E : Int) < (b : Int) := by omega
              go_wp2_with fail
              refine (HSY1.out _ _ HS kS.1 kS.2).mono ?_
              rintro e WS ⟨rfl, hSS⟩
              clear HS
              have HS := hSS
              clear hSS
              go_wp2_with fail
              refine (HSY2.out _ _ HS kT.1 kT.2).mono ?_
              rintro e WT ⟨rfl, hST⟩
              clear HS
              have HS := hST
              clear hST
              go_wp2
              go_end0
              exact ⟨rfl, by rw [HG.out, if_pos kT, if_pos kS, if_neg (show ¬ (I < m ∧ m < E) by omega)]; exact HS.out.1, HS.out.2.1⟩
            · skip
              have Rp1 : decide ((I : Int) < (m : Int)) = true := decide_eq_true (by omega)
              have Rp2 : (I : Int) < (m : Int) := by omega
              have Rq1 : decide ((m : Int) < (E : Int)) = false := decide_eq_false (by omega)
              have Rq2 : ¬ m < E := by omega
              have Rq3 : ¬ (m : Int) < (E : Int) := by omega
              have Sp1 : decide ((a : Int) < (I : Int)) = true := decide_eq_true (by omega)
              have Sp2 : (a : Int) < (I : Int) := by omega
              have Sq1 : decide ((I : Int) < (mid : Int)) = true := decide_eq_true (by omega)
              have Sq2 : (I : Int) < (mid : Int) := by omega
              have Tp1 : decide ((mid : Int) < (E : Int)) = true := decide_eq_true (by omega)
              have Tp2 : (mid : Int) < (E : Int) := by omega
              have Tq1 : decide ((E : Int) < (b : Int)) = false := decide_eq_false (by omega)
              have Tq2 : ¬ E < b := by omega
              have Tq3 : ¬ (E : Int) < (b : Int) := by omega
              go_wp2_with fail
              refine (HSY1.out _ _ HS kS.1 kS.2).mono ?_
              rintro e WS ⟨rfl, hSS⟩
              clear HS
              have HS := hSS
              clear hSS
              go_wp2
              go_end0
              exact ⟨rfl, by rw [HG.out, if_neg (show ¬ (mid < E ∧ E < b) by omega), if_pos kS, if_neg (show ¬ (I < m ∧ m < E) by omega)]; exact HS.out.1, HS.out.2.1⟩
            · skip
              have Rp1 : decide ((I : Int) < (m : Int)) = true := decide_eq_true (by omega)
              have Rp2 : (I : Int) < (m : Int) := by omega
              have Rq1 : decide ((m : Int) < (E : Int)) = false := decide_eq_false (by omega)
              have Rq2 : ¬ m < E := by omega
              have Rq3 : ¬ (m : Int) < (E : Int) := by omega
              have Sp1 : decide ((a : Int) < (I : Int)) = true := decide_eq_true (by omega)
              have Sp2 : (a : Int) < (I : Int) := by omega
              have Sq1 : decide ((I : Int) < (mid : Int)) = true := decide_eq_true (by omega)
              have Sq2 : (I : Int) < (mid : Int) := by omega
              have Tp1 : decide ((mid : Int) < (E : Int)) = false := decide_eq_false (by omega)
              have Tp2 : ¬ mid < E := by omega
              have Tp3 : ¬ (mid : Int) < (E : Int) := by omega
              go_wp2_with fail
              refine (HSY1.out _ _ HS kS.1 kS.2).mono ?_
              rintro e WS ⟨rfl, hSS⟩
              clear HS
              have HS := hSS
              clear hSS
              go_wp2
              go_end0
              exact ⟨rfl, by rw [HG.out, if_neg (show ¬ (mid < E ∧ E < b) by omega), if_pos kS, if_neg (show ¬ (I < m ∧ m < E) by omega)]; exact HS.out.1, HS.out.2.1⟩
          · skip
            rcases three (mid < E) (E < b) with kT | kT | kT
            · skip
              have Rp1 : decide ((I : Int) < (m : Int)) = true := decide_eq_true (by omega)
              have Rp2 : (I : Int) < (m : Int) := by omega
              have Rq1 : decide ((m : Int) < (E : Int)) = false := decide_eq_false (by omega)
              have Rq2 : ¬ m < E := by omega
              have Rq3 : ¬ (m : Int) < (E : Int) := by omega
              have Sp1 : decide ((a : Int) < (I : Int)) = true := decide_eq_true (by omega)
              have Sp2 : (a : Int) < (I : Int) := by omega
              have Sq1 : decide ((I : Int) < (mid : Int)) = false := decide_eq_false (by omega)
              have Sq2 : ¬ I < mid := by omega
              have Sq3 : ¬ (I : Int) < (mid : Int) := by omega
              have Tp1 : decide ((mid : Int) < (E : Int)) = true := decide_eq_true (by omega)
              have Tp2 : (mid : Int) < (E : Int) := by omega
              have Tq1 : decide ((E : Int) < (b : Int)) = true := decide_eq_true (by omega)
              have Tq2 : (E : Int) < (b : Int) := by omega
              go_wp2_with fail
              refine (HSY2.out _ _ HS kT.1 kT.2).mono ?_
              rintro e WT ⟨rfl, hST⟩
              clear HS
              have HS := hST
              clear hST
              go_wp2
              go_end0
              exact ⟨rfl, by rw [HG.out, if_pos kT, if_neg (show ¬ (a < I ∧ I < mid) by omega), if_neg (show ¬ (I < m ∧ m < E) by omega)]; exact HS.out.1, HS.out.2.1⟩
            · skip
              have Rp1 : decide ((I : Int) < (m : Int)) = true := decide_eq_true (by omega)
              have Rp2 : (I : Int) < (m : Int) := by omega
              have Rq1 : decide ((m : Int) < (E : Int)) = false := decide_eq_false (by omega)
              have Rq2 : ¬ m < E := by omega
              have Rq3 : ¬ (m : Int) < (E : Int) := by omega
              have Sp1 : decide ((a : Int) < (I : Int)) = true := decide_eq_true (by omega)
              have Sp2 : (a : Int) < (I : Int) := by omega
              have Sq1 : decide ((I : Int) < (mid : Int)) = false := decide_eq_false (by omega)
              have Sq2 : ¬ I < mid := by omega
              have Sq3 : ¬ (I : Int) < (mid : Int) := by omega
              have Tp1 : decide ((mid : Int) < (E : Int)) = true := decide_eq_true (by omega)
              have Tp2 : (mid : Int) < (E : Int) := by omega
              have Tq1 : decide ((E : Int) < (b : Int)) = false := decide_eq_false (by omega)
              have Tq2 : ¬ E < b := by omega
              have Tq3 : ¬ (E : Int) < (b : Int) := by omega
              go_wp2
              go_end0
              exact ⟨rfl, by rw [HG.out, if_neg (show ¬ (mid < E ∧ E < b) by omega), if_neg (show ¬ (a < I ∧ I < mid) by omega), if_neg (show ¬ (I < m ∧ m < E) by omega)]; exact HS.out.1, HS.out.2.1⟩
            · skip
              have Rp1 : decide ((I : Int) < (m : Int)) = true := decide_eq_true (by omega)
              have Rp2 : (I : Int) < (m : Int) := by omega
              have Rq1 : decide ((m : Int) < (E : Int)) = false := decide_eq_false (by omega)
              have Rq2 : ¬ m < E := by omega
              have Rq3 : ¬ (m : Int) < (E : Int) := by omega
              have Sp1 : decide ((a : Int) < (I : Int)) = true := decide_eq_true (by omega)
              have Sp2 : (a : Int) < (I : Int) := by omega
              have Sq1 : decide ((I : Int) < (mid : Int)) = false := decide_eq_false (by omega)
              have Sq2 : ¬ I < mid := by omega
              have Sq3 : ¬ (I : Int) < (mid : Int) := by omega
              have Tp1 : decide ((mid : Int) < (E : Int)) = false := decide_eq_false (by omega)
              have Tp2 : ¬ mid < E := by omega
              have Tp3 : ¬ (mid : Int) < (E : Int) := by omega
              go_wp2
              go_end0
              exact ⟨rfl, by rw [HG.out, if_neg (show ¬ (mid < E ∧ E < b) by omega), if_neg (show ¬ (a < I ∧ I < mid) by omega), if_neg (show ¬ (I < m ∧ m < E) by omega)]; exact HS.out.1, HS.out.2.1⟩
          · skip
            rcases three (mid < E) (E < b) with kT | kT | kT
            · skip
              have Rp1 : decide ((I : Int) < (m : Int)) = true := decide_eq_true (by omega)
              have Rp2 : (I : Int) < (m : Int) := by omega
              have Rq1 : decide ((m : Int) < (E : Int)) = false := decide_eq_false (by omega)
              have Rq2 : ¬ m < E := by omega
              have Rq3 : ¬ (m : Int) < (E : Int) := by omega
              have Sp1 : decide ((a : Int) < (I : Int)) = false := decide_eq_false (by omega)
              have Sp2 : ¬ a < I := by omega
              have Sp3 : ¬ (a : Int) < (I : Int) := by omega
              have Tp1 : decide ((mid : Int) < (E : Int)) = true := decide_eq_true (by omega)
              have Tp2 : (mid : Int) < (E : Int) := by omega
              have Tq1 : decide ((E : Int) < (b : Int)) = true := decide_eq_true (by omega)
              have Tq2 : (E : Int) < (b : Int) := by omega
              go_wp2_with fail
              refine (HSY2.out _ _ HS kT.1 kT.2).mono ?_
              rintro e WT ⟨rfl, hST⟩
              clear HS
              have HS := hST
              clear hST
              go_wp2
              go_end0
              exact ⟨rfl, by rw [HG.out, if_pos kT, if_neg (show ¬ (a < I ∧ I < mid) by omega), if_neg (show ¬ (I < m ∧ m < E) by omega)]; exact HS.out.1, HS.out.2.1⟩
            · skip
              have Rp1 : decide ((I : Int) < (m : Int)) = true := decide_eq_true (by omega)
              have Rp2 : (I : Int) < (m : Int) := by omega
              have Rq1 : decide ((m : Int) < (E : Int)) = false := decide_eq_false (by omega)
              have Rq2 : ¬ m < E := by omega
              have Rq3 : ¬ (m : Int) < (E : Int) := by omega
              have Sp1 : decide ((a : Int) < (I : Int)) = false := decide_eq_false (by omega)
              have Sp2 : ¬ a < I := by omega
              have Sp3 : ¬ (a : Int) < (I : Int) := by omega
              have Tp1 : decide ((mid : Int) < (E : Int)) = true := decide_eq_true (by omega)
              have Tp2 : (mid : Int) < (E : Int) := by omega
              have Tq1 : decide ((E : Int) < (b : Int)) = false := decide_eq_false (by omega)
              have Tq2 : ¬ E < b := by omega
              have Tq3 : ¬ (E : Int) < (b : Int) := by omega
              go_wp2
              go_end0
              exact ⟨rfl, by rw [HG.out, if_neg (show ¬ (mid < E ∧ E < b) by omega), if_neg (show ¬ (a < I ∧ I < mid) by omega), if_neg (show ¬ (I < m ∧ m < E) by omega)]; exact HS.out.1, HS.out.2.1⟩
            · skip
              have Rp1 : decide ((I : Int) < (m : Int)) = true := decide_eq_true (by omega)
              have Rp2 : (I : Int) < (m : Int) := by omega
              have Rq1 : decide ((m : Int) < (E : Int)) = false := decide_eq_false (by omega)
              have Rq2 : ¬ m < E := by omega
              have Rq3 : ¬ (m : Int) < (E : Int) := by omega
              have Sp1 : decide ((a : Int) < (I : Int)) = false := decide_eq_false (by omega)
              have Sp2 : ¬ a < I := by omega
              have Sp3 : ¬ (a : Int) < (I : Int) := by omega
              have Tp1 : decide ((mid : Int) < (E : Int)) = false := decide_eq_false (by omega)
              have Tp2 : ¬ mid < E := by omega
              have Tp3 : ¬ (mid : Int) < (E : Int) := by omega
              go_wp2
              go_end0
              exact ⟨rfl, by rw [HG.out, if_neg (show ¬ (mid < E ∧ E < b) by omega), if_neg (show ¬ (a < I ∧ I < mid) by omega), if_neg (show ¬ (I < m ∧ m < E) by omega)]; exact HS.out.1, HS.out.2.1⟩
        · skip
          rcases three (a < I) (I < mid) with kS | kS | kS
          · skip
            rcases three (mid < E) (E < b) with kT | kT | kT
            · skip
              have Rp1 : decide ((I : Int) < (m : Int)) = false := decide_eq_false (by omega)
              have Rp2 : ¬ I < m := by omega
              have Rp3 : ¬ (I : Int) < (m : Int) := by omega
              have Sp1 : decide ((a : Int) < (I : Int)) = true := decide_eq_true (by omega)
              have Sp2 : (a : Int) < (I : Int) := by omega
              have Sq1 : decide ((I : Int) < (mid : Int)) = true := decide_eq_true (by omega)
              have Sq2 : (I : Int) < (mid : Int) := by omega
              have Tp1 : decide ((mid : Int) < (E : Int)) = true := decide_eq_true (by omega)
              have Tp2 : (mid : Int) < (E : Int) := by omega
              have Tq1 : decide ((E : Int) < (b : Int)) = true := decide_eq_true (by omega)
              have Tq2 : (E : Int) < (b : Int) := by omega
              go_wp2_with fail
              refine (HSY1.out _ _ HS kS.1 kS.2).mono ?_
              rintro e WS ⟨rfl, hSS⟩
              clear HS
              have HS := hSS
              clear hSS
              go_wp2_with fail
              refine (HSY2.out _ _ HS kT.1 kT.2).mono ?_
              rintro e WT ⟨rfl, hST⟩
              clear HS
              have HS := hST
              clear hST
              go_wp2
              go_end0
              exact ⟨rfl, by rw [HG.out, if_pos kT, if_pos kS, if_neg (show ¬ (I < m ∧ m < E) by omega)]; exact HS.out.1, HS.out.2.1⟩
            · skip
              have Rp1 : decide ((I : Int) < (m : Int)) = false := decide_eq_false (by omega)
              have Rp2 : ¬ I < m := by omega
              have Rp3 : ¬ (I : Int) < (m : Int) := by omega
              have Sp1 : decide ((a : Int) < (I : Int)) = true := decide_eq_true (by omega)
              have Sp2 : (a : Int) < (I : Int) := by omega
              have Sq1 : decide ((I : Int) < (mid : Int)) = true := decide_eq_true (by omega)
              have Sq2 : (I : Int) < (mid : Int) := by omega
              have Tp1 : decide ((mid : Int) < (E : Int)) = true := decide_eq_true (by omega)
              have Tp2 : (mid : Int) < (E : Int) := by omega
              have Tq1 : decide ((E : Int) < (b : Int)) = false := decide_eq_false (by omega)
              have Tq2 : ¬ E < b := by omega
              have Tq3 : ¬ (E : Int) < (b : Int) := by omega
              go_wp2_with fail
              refine (HSY1.out _ _ HS kS.1 kS.2).mono ?_
              rintro e WS ⟨rfl, hSS⟩
              clear HS
              have HS := hSS
              clear hSS
              go_wp2
              go_end0
              exact ⟨rfl, by rw [HG.out, if_neg (show ¬ (mid < E ∧ E < b) by omega), if_pos kS, if_neg (show ¬ (I < m ∧ m < E) by omega)]; exact HS.out.1, HS.out.2.1⟩
            · skip
              have Rp1 : decide ((I : Int) < (m : Int)) = false := decide_eq_false (by omega)
              have Rp2 : ¬ I < m := by omega
              have Rp3 : ¬ (I : Int) < (m : Int) := by omega
              have Sp1 : decide ((a : Int) < (I : Int)) = true := decide_eq_true (by omega)
              have Sp2 : (a : Int) < (I : Int) := by omega
              have Sq1 : decide ((I : Int) < (mid : Int)) = true := decide_eq_true (by omega)
              have Sq2 : (I : Int) < (mid : Int) := by omega
              have Tp1 : decide ((mid : Int) < (E : Int)) = false := decide_eq_false (by omega)
              have Tp2 : ¬ mid < E := by omega
              have Tp3 : ¬ (mid : Int) < (E : Int) := by omega
              go_wp2_with fail
              refine (HSY1.out _ _ HS kS.1 kS.2).mono ?_
              rintro e WS ⟨rfl, hSS⟩
              clear HS
              have HS := hSS
              clear hSS
              go_wp2
              go_end0
              exact ⟨rfl, by rw [HG.out, if_neg (show ¬ (mid < E ∧ E < b) by omega), if_pos kS, if_neg (show ¬ (I < m ∧ m < E) by omega)]; exact HS.out.1, HS.out.2.1⟩
          · skip
            rcases three (mid < E) (E < b) with kT | kT | kT
            · skip
              have Rp1 : decide ((I : Int) < (m : Int)) = false := decide_eq_false (by omega)
              have Rp2 : ¬ I < m := by omega
              have Rp3 : ¬ (I : Int) < (m : Int) := by omega
              have Sp1 : decide ((a : Int) < (I : Int)) = true := decide_eq_true (by omega)
              have Sp2 : (a : Int) < (I : Int) := by omega
              have Sq1 : decide ((I : Int) < (mid : Int)) = false := decide_eq_false (by omega)
              have Sq2 : ¬ I < mid := by omega
              have Sq3 : ¬ (I : Int) < (mid : Int) := by omega
              have Tp1 : decide ((mid : Int) < (E : Int)) = true := decide_eq_true (by omega)
              have Tp2 : (mid : Int) < (E : Int) := by omega
              have Tq1 : decide ((E : Int) < (b : Int)) = true := decide_eq_true (by omega)
              have Tq2 : (E : Int) < (b : Int) := by omega
              go_wp2_with fail
              refine (HSY2.out _ _ HS kT.1 kT.2).mono ?_
              rintro e WT ⟨rfl, hST⟩
              clear HS
              have HS := hST
              clear hST
              go_wp2
              go_end0
              exact ⟨rfl, by rw [HG.out, if_pos kT, if_neg (show ¬ (a < I ∧ I < mid) by omega), if_neg (show ¬ (I < m ∧ m < E) by omega)]; exact HS.out.1, HS.out.2.1⟩
            · skip
              have Rp1 : decide ((I : Int) < (m : Int)) = false := decide_eq_false (by omega)
              have Rp2 : ¬ I < m := by omega
              have Rp3 : ¬ (I : Int) < (m : Int) := by omega
              have Sp1 : decide ((a : Int) < (I : Int)) = true := decide_eq_true (by omega)
              have Sp2 : (a : Int) < (I : Int) := by omega
              have Sq1 : decide ((I : Int) < (mid : Int)) = false := decide_eq_false (by omega)
              have Sq2 : ¬ I < mid := by omega
              have Sq3 : ¬ (I : Int) < (mid : Int) := by omega
              have Tp1 : decide ((mid : Int) < (E : Int)) = true := decide_eq_true (by omega)
              have Tp2 : (mid : Int) < (E : Int) := by omega
              have Tq1 : decide ((E : Int) < (b : Int)) = false := decide_eq_false (by omega)
              have Tq2 : ¬ E < b := by omega
              have Tq3 : ¬ (E : Int) < (b : Int) := by omega
              go_wp2
              go_end0
              exact ⟨rfl, by rw [HG.out, if_neg (show ¬ (mid < E ∧ E < b) by omega), if_neg (show ¬ (a < I ∧ I < mid) by omega), if_neg (show ¬ (I < m ∧ m < E) by omega)]; exact HS.out.1, HS.out.2.1⟩
            · skip
              have Rp1 : decide ((I : Int) < (m : Int)) = false := decide_eq_false (by omega)
              have Rp2 : ¬ I < m := by omega
              have Rp3 : ¬ (I : Int) < (m : Int) := by omega
              have Sp1 : decide ((a : Int) < (I : Int)) = true := decide_eq_true (by omega)
              have Sp2 : (a : Int) < (I : Int) := by omega
              have Sq1 : decide ((I : Int) < (mid : Int)) = false := decide_eq_false (by omega)
              have Sq2 : ¬ I < mid := by omega
              have Sq3 : ¬ (I : Int) < (mid : Int) := by omega
              have Tp1 : decide ((mid : Int) < (E : Int)) = false := decide_eq_false (by omega)
              have Tp2 : ¬ mid < E := by omega
              have Tp3 : ¬ (mid : Int) < (E : Int) := by omega
              go_wp2
              go_end0
              exact ⟨rfl, by rw [HG.out, if_neg (show ¬ (mid < E ∧ E < b) by omega), if_neg (show ¬ (a < I ∧ I < mid) by omega), if_neg (show ¬ (I < m ∧ m < E) by omega)]; exact HS.out.1, HS.out.2.1⟩
          · skip
            rcases three (mid < E) (E < b) with kT | kT | kT
            · skip
              have Rp1 : decide ((I : Int) < (m : Int)) = false := decide_eq_false (by omega)
              have Rp2 : ¬ I < m := by omega
              have Rp3 : ¬ (I : Int) < (m : Int) := by omega
              have Sp1 : decide ((a : Int) < (I : Int)) = false := decide_eq_false (by omega)
              have Sp2 : ¬ a < I := by omega
              have Sp3 : ¬ (a : Int) < (I : Int) := by omega
              have Tp1 : decide ((mid : Int) < (E : Int)) = true := decide_eq_true (by omega)
              have Tp2 : (mid : Int) < (E : Int) := by omega
              have Tq1 : decide ((E : Int) < (b : Int)) = true := decide_eq_true (by omega)
              have Tq2 : (E : Int) < (b : Int) := by omega
              go_wp2_with fail
              refine (HSY2.out _ _ HS kT.1 kT.2).mono ?_
              rintro e WT ⟨rfl, hST⟩
              clear HS
              have HS := hST
              clear hST
              go_wp2
              go_end0
              exact ⟨rfl, by rw [HG.out, if_pos kT, if_neg (show ¬ (a < I ∧ I < mid) by omega), if_neg (show ¬ (I < m ∧ m < E) by omega)]; exact HS.out.1, HS.out.2.1⟩
            · skip
              have Rp1 : decide ((I : Int) < (m : Int)) = false := decide_eq_false (by omega)
              have Rp2 : ¬ I < m := by omega
              have Rp3 : ¬ (I : Int) < (m : Int) := by omega
              have Sp1 : decide ((a : Int) < (I : Int)) = false := decide_eq_false (by omega)
              have Sp2 : ¬ a < I := by omega
              have Sp3 : ¬ (a : Int) < (I : Int) := by omega
              have Tp1 : decide ((mid : Int) < (E : Int)) = true := decide_eq_true (by omega)
              have Tp2 : (mid : Int) < (E : Int) := by omega
              have Tq1 : decide ((E : Int) < (b : Int)) = false := decide_eq_false (by omega)
              have Tq2 : ¬ E < b := by omega
              have Tq3 : ¬ (E : Int) < (b : Int) := by omega
              go_wp2
              go_end0
              exact ⟨rfl, by rw [HG.out, if_neg (show ¬ (mid < E ∧ E < b) by omega), if_neg (show ¬ (a < I ∧ I < mid) by omega), if_neg (show ¬ (I < m ∧ m < E) by omega)]; exact HS.out.1, HS.out.2.1⟩
            · skip
              have Rp1 : decide ((I : Int) < (m : Int)) = false := decide_eq_false (by omega)
              have Rp2 : ¬ I < m := by omega
              have Rp3 : ¬ (I : Int) < (m : Int) := by omega
              have Sp1 : decide ((a : Int) < (I : Int)) = false := decide_eq_false (by omega)
              have Sp2 : ¬ a < I := by omega
              have Sp3 : ¬ (a : Int) < (I : Int) := by omega
              have Tp1 : decide ((mid : Int) < (E : Int)) = false := decide_eq_false (by omega)
              have Tp2 : ¬ mid < E := by omega
              have Tp3 : ¬ (mid : Int) < (E : Int) := by omega
              go_wp2
              go_end0
              exact ⟨rfl, by rw [HG.out, if_neg (show ¬ (mid < E ∧ E < b) by omega), if_neg (show ¬ (a < I ∧ I < mid) by omega), if_neg (show ¬ (I < m ∧ m < E) by omega)]; exact HS.out.1, HS.out.2.1⟩
        -- END TAIL
  · have hs := BN.out.1.2.2.2.2.2.2.2.2.2.2.2.2 hmm
    have g1 : decide ((mid : Int) < (m : Int)) = false := decide_eq_false (by omega)
    have g2 : ¬ mid < m := hmm
    have g3 : ¬ (mid : Int) < (m : Int) := by omega
    go_wp2
    clear g1 g2 g3
    replace hs : (.int .i64 a : Value) = .int .i64 s0 ∧ (.int .i64 m : Value) = .int .i64 r0 := ⟨by rw [hs.1], by rw [hs.2]⟩
    go_loopg [20, 21] (r0 - s0) (fun gg v20 v21 wr => ∃ (i j ff : Nat), s0 ≤ i ∧ i ≤ j ∧ j ≤ r0 ∧ j - i < ff ∧ j - i ≤ gg ∧ v20 = .int .i64 i ∧ v21 = .int .i64 j ∧ Hid (bs p ff i j = I) ∧ Hid (RowA g o qz wr d0) ∧ Hid (Below base w wr))
    case atStart => exact ⟨s0, r0, r0 - s0 + 1, Nat.le_refl _, by omega, Nat.le_refl _, by omega, Nat.le_refl _, hs.1, hs.2, Lib.hid HI.out.symm, HR, HB0⟩
    case round =>
      clear HR HB0 HI hs
      obtain ⟨i, j, ff, q1, q2, q3, q4, q5, rfl, rfl, HD, HR, HB⟩ := hrel
      by_cases hij : i < j
      · have hijz : (i : Int) < (j : Int) := by omega
        obtain ⟨Y, eY⟩ : ∃ Y, Y = (i + j) / 2 := ⟨_, rfl⟩
        obtain ⟨X, eX⟩ : ∃ X, X = pp - Y := ⟨_, rfl⟩
        have hh : ((i : Int) + (j : Int)) / 2 = (Y : Int) := by clear wmid wn wp; omega
        have hxb : i ≤ Y ∧ Y < j ∧ Y + 1 ≤ j ∧ Y ≤ pp ∧ pp - Y < b := by have := HPP.out; clear wmid wn wp hh; omega
        have HGO := Lib.hid (bs_go p ff i j (by clear wmid wn wp hh; omega) hij)
        rw [← eY] at HGO
        have hPX : p Y = !ltF c d0[X]! d0[Y]! := by rw [HP.out, eX, HPP.out]
        have hX : X < d0.size := by rw [← HN.out]; clear wmid wn wp hh; omega
        have hY : Y < d0.size := by rw [← HN.out]; clear wmid wn wp hh; omega
        have lx : X < N := by clear wmid wn wp hh; omega
        have ly : Y < N := by clear wmid wn wp hh; omega
        have zx : 0 ≤ (X : Int) := by clear wmid wn wp hh; omega
        have zy : 0 ≤ (Y : Int) := by clear wmid wn wp hh; omega
        have kx : (X : Int) < (N : Int) := by clear wmid wn wp hh; omega
        have ky : (Y : Int) < (N : Int) := by clear wmid wn wp hh; omega
        obtain ⟨u, eU⟩ : ∃ u, d0[X]! = u := ⟨_, rfl⟩
        obtain ⟨v, eV⟩ : ∃ v, d0[Y]! = v := ⟨_, rfl⟩
        have hgd : g < wr.drew.heap.size := HR.out.lt
        have hRD := Aside0.mk (show RowA g o qz wr.drew d0 from ⟨HR.out.row, trivial⟩)
        have hBD := Aside0.mk (show Below base w wr.drew from HB.out.drew)
        have hc0 := hRD.out.cell hX eU
        have hc2 := hRD.out.cell hY eV
        have pu := hRD.out.el hX eU
        have pv := hRD.out.el hY eV
        rw [eU, eV] at hPX
        have nx1 : j - (Y + 1) < ff - 1 ∧ j - (Y + 1) ≤ gk - 1 ∧ s0 ≤ Y + 1 := by clear wmid wn wp hh; omega
        have nx2 : Y - i < ff - 1 ∧ Y - i ≤ gk - 1 ∧ Y ≤ r0 := by clear wmid wn wp hh; omega
        have mea : gk - 1 < gk := by clear wmid wn wp hh; omega
        have wX : IntKind.i64.wrap ((pp : Int) - (Y : Int)) = (X : Int) := (wrap_small _ (by clear wmid wn wp hh; omega) (by clear wmid wn wp hh; omega)).trans (by clear wmid wn wp hh; omega)
        clear HR HB eX eY
        cases hlt2 : ltF c u v with
        | true =>
          have hcl : decide (c u v < 0) = true := hlt2
          have HD2 := Lib.hid (show bs p (ff - 1) i Y = I by rw [← HD.out, HGO.out, hPX, hlt2, if_neg (by decide)])
          clear HD HGO hPX hlt2
          go_wp2_with fail
          -- COPY symCmpC1
          refine start_ (n := 14) (S := fun w' => w'.cell? ⟨g, o + X, none⟩ = some (.int .i32 u) ∧ w'.cell? ⟨g, o + Y, none⟩ = some (.int .i32 v)) (ds := []) #[false, false, false, false, false, false, false, false, false, false, false, false, false, false] (by kernel_rfl) rfl rfl ⟨(hc0), (hc2)⟩ (fun hHeld => ?_)
          generalize wr.drew = WD at *
          refine pure_ (i := 0) (N := some 158) (v := ?_) (a' := ?_) #[true, false, false, false, false, false, false, false, false, false, false, false, false, false] rfl rfl (by kernel_rfl) (fun _ _ _ h => h) (Or.inl ⟨by rfl, ?_⟩) ?_ ?_
          rotate_left
          · intro w'
            go_simp
            with_reducible rfl
          rotate_left
          · simp only [Act.put, List.setIfInBounds_toArray, List.set_cons_zero, List.set_cons_succ, i64_w, i32_w]
            rfl
          refine pure_ (i := 1) (N := some 159) (v := ?_) (a' := ?_) #[true, true, false, false, false, false, false, false, false, false, false, false, false, false] rfl rfl (by kernel_rfl) (fun _ _ _ h => h) (Or.inl ⟨by rfl, ?_⟩) ?_ ?_
          rotate_left
          · intro w'
            go_simp
            with_reducible rfl
          rotate_left
          · simp only [Act.put, List.setIfInBounds_toArray, List.set_cons_zero, List.set_cons_succ, i64_w, i32_w]
            rfl
          refine pure_ (i := 2) (N := some 160) (v := ?_) (a' := ?_) #[true, true, true, false, false, false, false, false, false, false, false, false, false, false] rfl rfl (by kernel_rfl) (fun _ _ _ h => h) (Or.inl ⟨by rfl, ?_⟩) ?_ ?_
          rotate_left
          · intro w'
            go_simp
            with_reducible rfl
          rotate_left
          · simp only [Act.put, List.setIfInBounds_toArray, List.set_cons_zero, List.set_cons_succ, i64_w, i32_w]
            rfl
          refine pure_ (i := 3) (N := some 161) (v := ?_) (a' := ?_) #[true, true, true, true, false, false, false, false, false, false, false, false, false, false] rfl rfl (by kernel_rfl) (fun _ _ _ h => h) (Or.inl ⟨by rfl, ?_⟩) ?_ ?_
          rotate_left
          · intro w'
            go_simp
            with_reducible rfl
          rotate_left
          · simp only [Act.put, List.setIfInBounds_toArray, List.set_cons_zero, List.set_cons_succ, i64_w, i32_w]
            rfl
          refine pure_ (i := 4) (N := some 162) (v := ?_) (a' := ?_) #[true, true, true, true, true, false, false, false, false, false, false, false, false, false] rfl rfl (by kernel_rfl) (fun _ _ _ h => h) (Or.inl ⟨by rfl, ?_⟩) ?_ ?_
          rotate_left
          · intro w'
            go_simp
            with_reducible rfl
          rotate_left
          · simp only [Act.put, List.setIfInBounds_toArray, List.set_cons_zero, List.set_cons_succ, i64_w, i32_w]
            rfl
          refine pure_ (i := 5) (N := some 163) (v := ?_) (a' := ?_) #[true, true, true, true, true, true, false, false, false, false, false, false, false, false] rfl rfl (by kernel_rfl) (fun _ _ _ h => h) (Or.inl ⟨by rfl, ?_⟩) ?_ ?_
          rotate_left
          · intro w'
            go_simp
            with_reducible rfl
          rotate_left
          · simp only [Act.put, List.setIfInBounds_toArray, List.set_cons_zero, List.set_cons_succ, i64_w, i32_w]
            rfl
          refine pure_ (i := 7) (N := some 165) (v := ?_) (a' := ?_) #[true, true, true, true, true, true, false, true, false, false, false, false, false, false] rfl rfl (by kernel_rfl) (fun _ _ _ h => h) (Or.inl ⟨by rfl, ?_⟩) ?_ ?_
          rotate_left
          · intro w'
            go_simp
            with_reducible rfl
          rotate_left
          · simp only [Act.put, List.setIfInBounds_toArray, List.set_cons_zero, List.set_cons_succ, i64_w, i32_w]
            rfl
          refine pure_ (i := 8) (N := some 166) (v := ?_) (a' := ?_) #[true, true, true, true, true, true, false, true, true, false, false, false, false, false] rfl rfl (by kernel_rfl) (fun _ _ _ h => h) (Or.inl ⟨by rfl, ?_⟩) ?_ ?_
          rotate_left
          · intro w'
            go_simp
            with_reducible rfl
          rotate_left
          · simp only [Act.put, List.setIfInBounds_toArray, List.set_cons_zero, List.set_cons_succ, i64_w, i32_w]
            rfl
          refine pure_ (i := 9) (N := some 167) (v := ?_) (a' := ?_) #[true, true, true, true, true, true, false, true, true, true, false, false, false, false] rfl rfl (by kernel_rfl) (fun _ _ _ h => h) (Or.inl ⟨by rfl, ?_⟩) ?_ ?_
          rotate_left
          · intro w'
            go_simp
            with_reducible rfl
          rotate_left
          · simp only [Act.put, List.setIfInBounds_toArray, List.set_cons_zero, List.set_cons_succ, i64_w, i32_w]
            rfl
          refine take_ (i := 6) (N := some 164) (v := ?_) (a' := ?_) #[true, true, true, true, true, true, true, true, true, true, false, false, false, false] rfl rfl (by kernel_rfl) (fun _ _ _ h => h) (Or.inl ⟨by rfl, ?_⟩) hHeld ?_ ?_
          rotate_left
          · rintro w' ⟨s0, s2⟩
            go_simp
            with_reducible rfl
          rotate_left
          · simp only [Act.put, List.setIfInBounds_toArray, List.set_cons_zero, List.set_cons_succ, i64_w, i32_w]
            rfl
          refine take_ (i := 10) (N := some 168) (v := ?_) (a' := ?_) #[true, true, true, true, true, true, true, true, true, true, true, false, false, false] rfl rfl (by kernel_rfl) (fun _ _ _ h => h) (Or.inl ⟨by rfl, ?_⟩) hHeld ?_ ?_
          rotate_left
          · rintro w' ⟨s0, s2⟩
            go_simp
            with_reducible rfl
          rotate_left
          · simp only [Act.put, List.setIfInBounds_toArray, List.set_cons_zero, List.set_cons_succ, i64_w, i32_w]
            rfl
          refine one_ (i := 11) (N := some 169) #[true, true, true, true, true, true, true, true, true, true, true, true, false, false] rfl rfl (by kernel_rfl) (by decide) (fun K hK => ?_)
          refine call_ fq (#[.int .i32 u, .int .i32 v] ++ lb) (by rfl) rfl ?_ ?_
          · go_simp
            try rfl
          with_reducible refine (HC.out _ u v hBD.out pu.out pv.out).mono ?_
          rintro e w3 ⟨rfl, hb⟩
          refine ⟨_, rfl, ?_⟩
          have HBB := Aside0.mk hb
          clear hb
          refine hK.out _ _ ⟨((HBB.out.cell hgd).trans hc0), ((HBB.out.cell hgd).trans hc2)⟩ (fun hHeld => ?_)
          clear hK K
          refine norm_ (a' := ?_) ?_ ?_
          rotate_left
          · show Act.put _ (some 169) _ = _
            simp only [Act.put, List.setIfInBounds_toArray, List.set_cons_zero, List.set_cons_succ, i64_w, i32_w]
            rfl
          refine pure_ (i := 12) (N := some 170) (v := ?_) (a' := ?_) #[true, true, true, true, true, true, true, true, true, true, true, true, true, false] rfl rfl (by kernel_rfl) (fun _ _ _ h => h) (Or.inl ⟨by rfl, ?_⟩) ?_ ?_
          rotate_left
          · intro w'
            go_simp
            with_reducible rfl
          rotate_left
          · simp only [Act.put, List.setIfInBounds_toArray, List.set_cons_zero, List.set_cons_succ, i64_w, i32_w]
            rfl
          refine pure_ (i := 13) (N := some 171) (v := ?_) (a' := ?_) #[true, true, true, true, true, true, true, true, true, true, true, true, true, true] rfl rfl (by kernel_rfl) (fun _ _ _ h => h) (Or.inl ⟨by rfl, ?_⟩) ?_ ?_
          rotate_left
          · intro w'
            go_simp
            with_reducible rfl
          rotate_left
          · simp only [Act.put, List.setIfInBounds_toArray, List.set_cons_zero, List.set_cons_succ, i64_w, i32_w]
            rfl
          refine done_ (by kernel_rfl) ?_
          -- ENDCOPY symCmpC1
          have hR3 := Aside0.mk (hRD.out.below HBB.out)
          have hB3 := Aside0.mk (hBD.out.trans (HBB.out.mono (Nat.le_trans hbw hBD.out.size)))
          clear hRD hBD HBB hHeld hgd hc0 hc2
          go_wp2
          go_roundg (gk - 1)
          case measure => exact mea
          case rel => exact ⟨i, Y, ff - 1, q1, hxb.1, nx2.2.2, nx2.1, nx2.2.1, rfl, rfl, HD2, Lib.hid hR3.out, Lib.hid hB3.out⟩
        | false =>
          have hcl : decide (c u v < 0) = false := hlt2
          have HD2 := Lib.hid (show bs p (ff - 1) (Y + 1) j = I by rw [← HD.out, HGO.out, hPX, hlt2, if_pos (by decide)])
          clear HD HGO hPX hlt2
          go_wp2_with fail
          -- COPY symCmpC2
          refine start_ (n := 14) (S := fun w' => w'.cell? ⟨g, o + X, none⟩ = some (.int .i32 u) ∧ w'.cell? ⟨g, o + Y, none⟩ = some (.int .i32 v)) (ds := []) #[false, false, false, false, false, false, false, false, false, false, false, false, false, false] (by kernel_rfl) rfl rfl ⟨(hc0), (hc2)⟩ (fun hHeld => ?_)
          generalize wr.drew = WD at *
          refine pure_ (i := 0) (N := some 158) (v := ?_) (a' := ?_) #[true, false, false, false, false, false, false, false, false, false, false, false, false, false] rfl rfl (by kernel_rfl) (fun _ _ _ h => h) (Or.inl ⟨by rfl, ?_⟩) ?_ ?_
          rotate_left
          · intro w'
            go_simp
            with_reducible rfl
          rotate_left
          · simp only [Act.put, List.setIfInBounds_toArray, List.set_cons_zero, List.set_cons_succ, i64_w, i32_w]
            rfl
          refine pure_ (i := 1) (N := some 159) (v := ?_) (a' := ?_) #[true, true, false, false, false, false, false, false, false, false, false, false, false, false] rfl rfl (by kernel_rfl) (fun _ _ _ h => h) (Or.inl ⟨by rfl, ?_⟩) ?_ ?_
          rotate_left
          · intro w'
            go_simp
            with_reducible rfl
          rotate_left
          · simp only [Act.put, List.setIfInBounds_toArray, List.set_cons_zero, List.set_cons_succ, i64_w, i32_w]
            rfl
          refine pure_ (i := 2) (N := some 160) (v := ?_) (a' := ?_) #[true, true, true, false, false, false, false, false, false, false, false, false, false, false] rfl rfl (by kernel_rfl) (fun _ _ _ h => h) (Or.inl ⟨by rfl, ?_⟩) ?_ ?_
          rotate_left
          · intro w'
            go_simp
            with_reducible rfl
          rotate_left
          · simp only [Act.put, List.setIfInBounds_toArray, List.set_cons_zero, List.set_cons_succ, i64_w, i32_w]
            rfl
          refine pure_ (i := 3) (N := some 161) (v := ?_) (a' := ?_) #[true, true, true, true, false, false, false, false, false, false, false, false, false, false] rfl rfl (by kernel_rfl) (fun _ _ _ h => h) (Or.inl ⟨by rfl, ?_⟩) ?_ ?_
          rotate_left
          · intro w'
            go_simp
            with_reducible rfl
          rotate_left
          · simp only [Act.put, List.setIfInBounds_toArray, List.set_cons_zero, List.set_cons_succ, i64_w, i32_w]
            rfl
          refine pure_ (i := 4) (N := some 162) (v := ?_) (a' := ?_) #[true, true, true, true, true, false, false, false, false, false, false, false, false, false] rfl rfl (by kernel_rfl) (fun _ _ _ h => h) (Or.inl ⟨by rfl, ?_⟩) ?_ ?_
          rotate_left
          · intro w'
            go_simp
            with_reducible rfl
          rotate_left
          · simp only [Act.put, List.setIfInBounds_toArray, List.set_cons_zero, List.set_cons_succ, i64_w, i32_w]
            rfl
          refine pure_ (i := 5) (N := some 163) (v := ?_) (a' := ?_) #[true, true, true, true, true, true, false, false, false, false, false, false, false, false] rfl rfl (by kernel_rfl) (fun _ _ _ h => h) (Or.inl ⟨by rfl, ?_⟩) ?_ ?_
          rotate_left
          · intro w'
            go_simp
            with_reducible rfl
          rotate_left
          · simp only [Act.put, List.setIfInBounds_toArray, List.set_cons_zero, List.set_cons_succ, i64_w, i32_w]
            rfl
          refine pure_ (i := 7) (N := some 165) (v := ?_) (a' := ?_) #[true, true, true, true, true, true, false, true, false, false, false, false, false, false] rfl rfl (by kernel_rfl) (fun _ _ _ h => h) (Or.inl ⟨by rfl, ?_⟩) ?_ ?_
          rotate_left
          · intro w'
            go_simp
            with_reducible rfl
          rotate_left
          · simp only [Act.put, List.setIfInBounds_toArray, List.set_cons_zero, List.set_cons_succ, i64_w, i32_w]
            rfl
          refine pure_ (i := 8) (N := some 166) (v := ?_) (a' := ?_) #[true, true, true, true, true, true, false, true, true, false, false, false, false, false] rfl rfl (by kernel_rfl) (fun _ _ _ h => h) (Or.inl ⟨by rfl, ?_⟩) ?_ ?_
          rotate_left
          · intro w'
            go_simp
            with_reducible rfl
          rotate_left
          · simp only [Act.put, List.setIfInBounds_toArray, List.set_cons_zero, List.set_cons_succ, i64_w, i32_w]
            rfl
          refine pure_ (i := 9) (N := some 167) (v := ?_) (a' := ?_) #[true, true, true, true, true, true, false, true, true, true, false, false, false, false] rfl rfl (by kernel_rfl) (fun _ _ _ h => h) (Or.inl ⟨by rfl, ?_⟩) ?_ ?_
          rotate_left
          · intro w'
            go_simp
            with_reducible rfl
          rotate_left
          · simp only [Act.put, List.setIfInBounds_toArray, List.set_cons_zero, List.set_cons_succ, i64_w, i32_w]
            rfl
          refine take_ (i := 6) (N := some 164) (v := ?_) (a' := ?_) #[true, true, true, true, true, true, true, true, true, true, false, false, false, false] rfl rfl (by kernel_rfl) (fun _ _ _ h => h) (Or.inl ⟨by rfl, ?_⟩) hHeld ?_ ?_
          rotate_left
          · rintro w' ⟨s0, s2⟩
            go_simp
            with_reducible rfl
          rotate_left
          · simp only [Act.put, List.setIfInBounds_toArray, List.set_cons_zero, List.set_cons_succ, i64_w, i32_w]
            rfl
          refine take_ (i := 10) (N := some 168) (v := ?_) (a' := ?_) #[true, true, true, true, true, true, true, true, true, true, true, false, false, false] rfl rfl (by kernel_rfl) (fun _ _ _ h => h) (Or.inl ⟨by rfl, ?_⟩) hHeld ?_ ?_
          rotate_left
          · rintro w' ⟨s0, s2⟩
            go_simp
            with_reducible rfl
          rotate_left
          · simp only [Act.put, List.setIfInBounds_toArray, List.set_cons_zero, List.set_cons_succ, i64_w, i32_w]
            rfl
          refine one_ (i := 11) (N := some 169) #[true, true, true, true, true, true, true, true, true, true, true, true, false, false] rfl rfl (by kernel_rfl) (by decide) (fun K hK => ?_)
          refine call_ fq (#[.int .i32 u, .int .i32 v] ++ lb) (by rfl) rfl ?_ ?_
          · go_simp
            try rfl
          with_reducible refine (HC.out _ u v hBD.out pu.out pv.out).mono ?_
          rintro e w3 ⟨rfl, hb⟩
          refine ⟨_, rfl, ?_⟩
          have HBB := Aside0.mk hb
          clear hb
          refine hK.out _ _ ⟨((HBB.out.cell hgd).trans hc0), ((HBB.out.cell hgd).trans hc2)⟩ (fun hHeld => ?_)
          clear hK K
          refine norm_ (a' := ?_) ?_ ?_
          rotate_left
          · show Act.put _ (some 169) _ = _
            simp only [Act.put, List.setIfInBounds_toArray, List.set_cons_zero, List.set_cons_succ, i64_w, i32_w]
            rfl
          refine pure_ (i := 12) (N := some 170) (v := ?_) (a' := ?_) #[true, true, true, true, true, true, true, true, true, true, true, true, true, false] rfl rfl (by kernel_rfl) (fun _ _ _ h => h) (Or.inl ⟨by rfl, ?_⟩) ?_ ?_
          rotate_left
          · intro w'
            go_simp
            with_reducible rfl
          rotate_left
          · simp only [Act.put, List.setIfInBounds_toArray, List.set_cons_zero, List.set_cons_succ, i64_w, i32_w]
            rfl
          refine pure_ (i := 13) (N := some 171) (v := ?_) (a' := ?_) #[true, true, true, true, true, true, true, true, true, true, true, true, true, true] rfl rfl (by kernel_rfl) (fun _ _ _ h => h) (Or.inl ⟨by rfl, ?_⟩) ?_ ?_
          rotate_left
          · intro w'
            go_simp
            with_reducible rfl
          rotate_left
          · simp only [Act.put, List.setIfInBounds_toArray, List.set_cons_zero, List.set_cons_succ, i64_w, i32_w]
            rfl
          refine done_ (by kernel_rfl) ?_
          -- ENDCOPY symCmpC2
          have hR3 := Aside0.mk (hRD.out.below HBB.out)
          have hB3 := Aside0.mk (hBD.out.trans (HBB.out.mono (Nat.le_trans hbw hBD.out.size)))
          clear hRD hBD HBB hHeld hgd hc0 hc2
          go_wp2
          go_roundg (gk - 1)
          case measure => exact mea
          case rel => exact ⟨Y + 1, j, ff - 1, nx1.2.2, hxb.2.2.1, q3, nx1.1, nx1.2.1, by first | rfl | (clear wX wmid wn wp hh; go_num), rfl, HD2, Lib.hid hR3.out, Lib.hid hB3.out⟩
      · have hijz : ¬ (i : Int) < (j : Int) := by omega
        have hiI : I = i := ((bs_end p ff i j (by omega) hij).symm.trans HD.out).symm
        subst hiI
        have hEE := HE.out
        have wE : IntKind.i64.wrap ((n : Int) - (I : Int)) = (E : Int) := (wrap_small _ (by clear wmid wn wp; omega) (by clear wmid wn wp; omega)).trans (by clear wmid wn wp; omega)
        have HS := Lib.hid (And.intro HR.out (And.intro HB.out HN.out.symm))
        clear HD q4 q5 HR HB wmid wn wp hEE
        rcases three (I < m) (m < E) with kR | kR | kR
        · skip
          rcases three (a < I) (I < mid) with kS | kS | kS
          · skip
            rcases three (mid < E) (E < b) with kT | kT | kT
            · skip
              have Rp1 : decide ((I : Int) < (m : Int)) = true := decide_eq_true (by omega)
              have Rp2 : (I : Int) < (m : Int) := by omega
              have Rq1 : decide ((m : Int) < (E : Int)) = true := decide_eq_true (by omega)
              have Rq2 : (m : Int) < (E : Int) := by omega
              have Sp1 : decide ((a : Int) < (I : Int)) = true := decide_eq_true (by omega)
              have Sp2 : (a : Int) < (I : Int) := by omega
              have Sq1 : decide ((I : Int) < (mid : Int)) = true := decide_eq_true (by omega)
              have Sq2 : (I : Int) < (mid : Int) := by omega
              have Tp1 : decide ((mid : Int) < (E : Int)) = true := decide_eq_true (by omega)
              have Tp2 : (mid : Int) < (E : Int) := by omega
              have Tq1 : decide ((E : Int) < (b : Int)) = true := decide_eq_true (by omega)
              have Tq2 : (E : Int) < (b : Int) := by omega
              go_wp2_with fail
              refine (HROT.out _ _ HS kR.1 kR.2).mono ?_
              rintro e WR ⟨rfl, hSR⟩
              clear HS
              have HS := hSR
              clear hSR
              go_wp2_with fail
              refine (HSY1.out _ _ HS kS.1 kS.2).mono ?_
              rintro e WS ⟨rfl, hSS⟩
              clear HS
              have HS := hSS
              clear hSS
              go_wp2_with fail
              refine (HSY2.out _ _ HS kT.1 kT.2).mono ?_
              rintro e WT ⟨rfl, hST⟩
              clear HS
              have HS := hST
              clear hST
              go_wp2
              go_end0
              exact ⟨rfl, by rw [HG.out, if_pos kT, if_pos kS, if_pos kR]; exact HS.out.1, HS.out.2.1⟩
            · skip
              have Rp1 : decide ((I : Int) < (m : Int)) = true := decide_eq_true (by omega)
              have Rp2 : (I : Int) < (m : Int) := by omega
              have Rq1 : decide ((m : Int) < (E : Int)) = true := decide_eq_true (by omega)
              have Rq2 : (m : Int) < (E : Int) := by omega
              have Sp1 : decide ((a : Int) < (I : Int)) = true := decide_eq_true (by omega)
              have Sp2 : (a : Int) < (I : Int) := by omega
              have Sq1 : decide ((I : Int) < (mid : Int)) = true := decide_eq_true (by omega)
              have Sq2 : (I : Int) < (mid : Int) := by omega
              have Tp1 : decide ((mid : Int) < (E : Int)) = true := decide_eq_true (by omega)
              have Tp2 : (mid : Int) < (E : Int) := by omega
              have Tq1 : decide ((E : Int) < (b : Int)) = false := decide_eq_false (by omega)
              have Tq2 : ¬ E < b := by omega
              have Tq3 : ¬ (E : Int) < (b : Int) := by omega
              go_wp2_with fail
              refine (HROT.out _ _ HS kR.1 kR.2).mono ?_
              rintro e WR ⟨rfl, hSR⟩
              clear HS
              have HS := hSR
              clear hSR
              go_wp2_with fail
              refine (HSY1.out _ _ HS kS.1 kS.2).mono ?_
              rintro e WS ⟨rfl, hSS⟩
              clear HS
              have HS := hSS
              clear hSS
              go_wp2
              go_end0
              exact ⟨rfl, by rw [HG.out, if_neg (show ¬ (mid < E ∧ E < b) by omega), if_pos kS, if_pos kR]; exact HS.out.1, HS.out.2.1⟩
            · skip
              have Rp1 : decide ((I : Int) < (m : Int)) = true := decide_eq_true (by omega)
              have Rp2 : (I : Int) < (m : Int) := by omega
              have Rq1 : decide ((m : Int) < (E : Int)) = true := decide_eq_true (by omega)
              have Rq2 : (m : Int) < (E : Int) := by omega
              have Sp1 : decide ((a : Int) < (I : Int)) = true := decide_eq_true (by omega)
              have Sp2 : (a : Int) < (I : Int) := by omega
              have Sq1 : decide ((I : Int) < (mid : Int)) = true := decide_eq_true (by omega)
              have Sq2 : (I : Int) < (mid : Int) := by omega
              have Tp1 : decide ((mid : Int) < (E : Int)) = false := decide_eq_false (by omega)
              have Tp2 : ¬ mid < E := by omega
              have Tp3 : ¬ (mid : Int) < (E : Int) := by omega
              go_wp2_with fail
              refine (HROT.out _ _ HS kR.1 kR.2).mono ?_
              rintro e WR ⟨rfl, hSR⟩
              clear HS
              have HS := hSR
              clear hSR
              go_wp2_with fail
              refine (HSY1.out _ _ HS kS.1 kS.2).mono ?_
              rintro e WS ⟨rfl, hSS⟩
              clear HS
              have HS := hSS
              clear hSS
              go_wp2
              go_end0
              exact ⟨rfl, by rw [HG.out, if_neg (show ¬ (mid < E ∧ E < b) by omega), if_pos kS, if_pos kR]; exact HS.out.1, HS.out.2.1⟩
          · skip
            rcases three (mid < E) (E < b) with kT | kT | kT
            · skip
              have Rp1 : decide ((I : Int) < (m : Int)) = true := decide_eq_true (by omega)
              have Rp2 : (I : Int) < (m : Int) := by omega
              have Rq1 : decide ((m : Int) < (E : Int)) = true := decide_eq_true (by omega)
              have Rq2 : (m : Int) < (E : Int) := by omega
              have Sp1 : decide ((a : Int) < (I : Int)) = true := decide_eq_true (by omega)
              have Sp2 : (a : Int) < (I : Int) := by omega
              have Sq1 : decide ((I : Int) < (mid : Int)) = false := decide_eq_false (by omega)
              have Sq2 : ¬ I < mid := by omega
              have Sq3 : ¬ (I : Int) < (mid : Int) := by omega
              have Tp1 : decide ((mid : Int) < (E : Int)) = true := decide_eq_true (by omega)
              have Tp2 : (mid : Int) < (E : Int) := by omega
              have Tq1 : decide ((E : Int) < (b : Int)) = true := decide_eq_true (by omega)
              have Tq2 : (E : Int) < (b : Int) := by omega
              go_wp2_with fail
              refine (HROT.out _ _ HS kR.1 kR.2).mono ?_
              rintro e WR ⟨rfl, hSR⟩
              clear HS
              have HS := hSR
              clear hSR
              go_wp2_with fail
              refine (HSY2.out _ _ HS kT.1 kT.2).mono ?_
              rintro e WT ⟨rfl, hST⟩
              clear HS
              have HS := hST
              clear hST
              go_wp2
              go_end0
              exact ⟨rfl, by rw [HG.out, if_pos kT, if_neg (show ¬ (a < I ∧ I < mid) by omega), if_pos kR]; exact HS.out.1, HS.out.2.1⟩
            · skip
              have Rp1 : decide ((I : Int) < (m : Int)) = true := decide_eq_true (by omega)
              have Rp2 : (I : Int) < (m : Int) := by omega
              have Rq1 : decide ((m : Int) < (E : Int)) = true := decide_eq_true (by omega)
              have Rq2 : (m : Int) < (E : Int) := by omega
              have Sp1 : decide ((a : Int) < (I : Int)) = true := decide_eq_true (by omega)
              have Sp2 : (a : Int) < (I : Int) := by omega
              have Sq1 : decide ((I : Int) < (mid : Int)) = false := decide_eq_false (by omega)
              have Sq2 : ¬ I < mid := by omega
              have Sq3 : ¬ (I : Int) < (mid : Int) := by omega
              have Tp1 : decide ((mid : Int) < (E : Int)) = true := decide_eq_true (by omega)
              have Tp2 : (mid : Int) < (E : Int) := by omega
              have Tq1 : decide ((E : Int) < (b : Int)) = false := decide_eq_false (by omega)
              have Tq2 : ¬ E < b := by omega
              have Tq3 : ¬ (E : Int) < (b : Int) := by omega
              go_wp2_with fail
              refine (HROT.out _ _ HS kR.1 kR.2).mono ?_
              rintro e WR ⟨rfl, hSR⟩
              clear HS
              have HS := hSR
              clear hSR
              go_wp2
              go_end0
              exact ⟨rfl, by rw [HG.out, if_neg (show ¬ (mid < E ∧ E < b) by omega), if_neg (show ¬ (a < I ∧ I < mid) by omega), if_pos kR]; exact HS.out.1, HS.out.2.1⟩
            · skip
              have Rp1 : decide ((I : Int) < (m : Int)) = true := decide_eq_true (by omega)
              have Rp2 : (I : Int) < (m : Int) := by omega
              have Rq1 : decide ((m : Int) < (E : Int)) = true := decide_eq_true (by omega)
              have Rq2 : (m : Int) < (E : Int) := by omega
              have Sp1 : decide ((a : Int) < (I : Int)) = true := decide_eq_true (by omega)
              have Sp2 : (a : Int) < (I : Int) := by omega
              have Sq1 : decide ((I : Int) < (mid : Int)) = false := decide_eq_false (by omega)
              have Sq2 : ¬ I < mid := by omega
              have Sq3 : ¬ (I : Int) < (mid : Int) := by omega
              have Tp1 : decide ((mid : Int) < (E : Int)) = false := decide_eq_false (by omega)
              have Tp2 : ¬ mid < E := by omega
              have Tp3 : ¬ (mid : Int) < (E : Int) := by omega
              go_wp2_with fail
              refine (HROT.out _ _ HS kR.1 kR.2).mono ?_
              rintro e WR ⟨rfl, hSR⟩
              clear HS
              have HS := hSR
              clear hSR
              go_wp2
              go_end0
              exact ⟨rfl, by rw [HG.out, if_neg (show ¬ (mid < E ∧ E < b) by omega), if_neg (show ¬ (a < I ∧ I < mid) by omega), if_pos kR]; exact HS.out.1, HS.out.2.1⟩
          · skip
            rcases three (mid < E) (E < b) with kT | kT | kT
            · skip
              have Rp1 : decide ((I : Int) < (m : Int)) = true := decide_eq_true (by omega)
              have Rp2 : (I : Int) < (m : Int) := by omega
              have Rq1 : decide ((m : Int) < (E : Int)) = true := decide_eq_true (by omega)
              have Rq2 : (m : Int) < (E : Int) := by omega
              have Sp1 : decide ((a : Int) < (I : Int)) = false := decide_eq_false (by omega)
              have Sp2 : ¬ a < I := by omega
              have Sp3 : ¬ (a : Int) < (I : Int) := by omega
              have Tp1 : decide ((mid : Int) < (E : Int)) = true := decide_eq_true (by omega)
              have Tp2 : (mid : Int) < (E : Int) := by omega
              have Tq1 : decide ((E : Int) < (b : Int)) = true := decide_eq_true (by omega)
              have Tq2 : (E : Int) < (b : Int) := by omega
              go_wp2_with fail
              refine (HROT.out _ _ HS kR.1 kR.2).mono ?_
              rintro e WR ⟨rfl, hSR⟩
              clear HS
              have HS := hSR
              clear hSR
              go_wp2_with fail
              refine (HSY2.out _ _ HS kT.1 kT.2).mono ?_
              rintro e WT ⟨rfl, hST⟩
              clear HS
              have HS := hST
              clear hST
              go_wp2
              go_end0
              exact ⟨rfl, by rw [HG.out, if_pos kT, if_neg (show ¬ (a < I ∧ I < mid) by omega), if_pos kR]; exact HS.out.1, HS.out.2.1⟩
            · skip
              have Rp1 : decide ((I : Int) < (m : Int)) = true := decide_eq_true (by omega)
              have Rp2 : (I : Int) < (m : Int) := by omega
              have Rq1 : decide ((m : Int) < (E : Int)) = true := decide_eq_true (by omega)
              have Rq2 : (m : Int) < (E : Int) := by omega
              have Sp1 : decide ((a : Int) < (I : Int)) = false := decide_eq_false (by omega)
              have Sp2 : ¬ a < I := by omega
              have Sp3 : ¬ (a : Int) < (I : Int) := by omega
              have Tp1 : decide ((mid : Int) < (E : Int)) = true := decide_eq_true (by omega)
              have Tp2 : (mid : Int) < (E : Int) := by omega
              have Tq1 : decide ((E : Int) < (b : Int)) = false := decide_eq_false (by omega)
              have Tq2 : ¬ E < b := by omega
              have Tq3 : ¬ (E : Int) < (b : Int) := by omega
              go_wp2_with fail
              refine (HROT.out _ _ HS kR.1 kR.2).mono ?_
              rintro e WR ⟨rfl, hSR⟩
              clear HS
              have HS := hSR
              clear hSR
              go_wp2
              go_end0
              exact ⟨rfl, by rw [HG.out, if_neg (show ¬ (mid < E ∧ E < b) by omega), if_neg (show ¬ (a < I ∧ I < mid) by omega), if_pos kR]; exact HS.out.1, HS.out.2.1⟩
            · skip
              have Rp1 : decide ((I : Int) < (m : Int)) = true := decide_eq_true (by omega)
              have Rp2 : (I : Int) < (m : Int) := by omega
              have Rq1 : decide ((m : Int) < (E : Int)) = true := decide_eq_true (by omega)
              have Rq2 : (m : Int) < (E : Int) := by omega
              have Sp1 : decide ((a : Int) < (I : Int)) = false := decide_eq_false (by omega)
              have Sp2 : ¬ a < I := by omega
              have Sp3 : ¬ (a : Int) < (I : Int) := by omega
              have Tp1 : decide ((mid : Int) < (E : Int)) = false := decide_eq_false (by omega)
              have Tp2 : ¬ mid < E := by omega
              have Tp3 : ¬ (mid : Int) < (E : Int) := by omega
              go_wp2_with fail
              refine (HROT.out _ _ HS kR.1 kR.2).mono ?_
              rintro e WR ⟨rfl, hSR⟩
              clear HS
              have HS := hSR
              clear hSR
              go_wp2
              go_end0
              exact ⟨rfl, by rw [HG.out, if_neg (show ¬ (mid < E ∧ E < b) by omega), if_neg (show ¬ (a < I ∧ I < mid) by omega), if_pos kR]; exact HS.out.1, HS.out.2.1⟩
        · skip
          rcases three (a < I) (I < mid) with kS | kS | kS
          · skip
            rcases three (mid < E) (E < b) with kT | kT | kT
            · skip
              have Rp1 : decide ((I : Int) < (m : Int)) = true := decide_eq_true (by omega)
              have Rp2 : (I : Int) < (m : Int) := by omega
              have Rq1 : decide ((m : Int) < (E : Int)) = false := decide_eq_false (by omega)
              have Rq2 : ¬ m < E := by omega
              have Rq3 : ¬ (m : Int) < (E : Int) := by omega
              have Sp1 : decide ((a : Int) < (I : Int)) = true := decide_eq_true (by omega)
              have Sp2 : (a : Int) < (I : Int) := by omega
              have Sq1 : decide ((I : Int) < (mid : Int)) = true := decide_eq_true (by omega)
              have Sq2 : (I : Int) < (mid : Int) := by omega
              have Tp1 : decide ((mid : Int) < (E : Int)) = true := decide_eq_true (by omega)
              have Tp2 : (mid : Int) < (E : Int) := by omega
              have Tq1 : decide ((E : Int) < (b : Int)) = true := decide_eq_true (by omega)
              have Tq2 : (E : Int) < (b : Int) := by omega
              go_wp2_with fail
              refine (HSY1.out _ _ HS kS.1 kS.2).mono ?_
              rintro e WS ⟨rfl, hSS⟩
              clear HS
              have HS := hSS
              clear hSS
              go_wp2_with fail
              refine (HSY2.out _ _ HS kT.1 kT.2).mono ?_
              rintro e WT ⟨rfl, hST⟩
              clear HS
              have HS := hST
              clear hST
              go_wp2
              go_end0
              exact ⟨rfl, by rw [HG.out, if_pos kT, if_pos kS, if_neg (show ¬ (I < m ∧ m < E) by omega)]; exact HS.out.1, HS.out.2.1⟩
            · skip
              have Rp1 : decide ((I : Int) < (m : Int)) = true := decide_eq_true (by omega)
              have Rp2 : (I : Int) < (m : Int) := by omega
              have Rq1 : decide ((m : Int) < (E : Int)) = false := decide_eq_false (by omega)
              have Rq2 : ¬ m < E := by omega
              have Rq3 : ¬ (m : Int) < (E : Int) := by omega
              have Sp1 : decide ((a : Int) < (I : Int)) = true := decide_eq_true (by omega)
              have Sp2 : (a : Int) < (I : Int) := by omega
              have Sq1 : decide ((I : Int) < (mid : Int)) = true := decide_eq_true (by omega)
              have Sq2 : (I : Int) < (mid : Int) := by omega
              have Tp1 : decide ((mid : Int) < (E : Int)) = true := decide_eq_true (by omega)
              have Tp2 : (mid : Int) < (E : Int) := by omega
              have Tq1 : decide ((E : Int) < (b : Int)) = false := decide_eq_false (by omega)
              have Tq2 : ¬ E < b := by omega
              have Tq3 : ¬ (E : Int) < (b : Int) := by omega
              go_wp2_with fail
              refine (HSY1.out _ _ HS kS.1 kS.2).mono ?_
              rintro e WS ⟨rfl, hSS⟩
              clear HS
              have HS := hSS
              clear hSS
              go_wp2
              go_end0
              exact ⟨rfl, by rw [HG.out, if_neg (show ¬ (mid < E ∧ E < b) by omega), if_pos kS, if_neg (show ¬ (I < m ∧ m < E) by omega)]; exact HS.out.1, HS.out.2.1⟩
            · skip
              have Rp1 : decide ((I : Int) < (m : Int)) = true := decide_eq_true (by omega)
              have Rp2 : (I : Int) < (m : Int) := by omega
              have Rq1 : decide ((m : Int) < (E : Int)) = false := decide_eq_false (by omega)
              have Rq2 : ¬ m < E := by omega
              have Rq3 : ¬ (m : Int) < (E : Int) := by omega
              have Sp1 : decide ((a : Int) < (I : Int)) = true := decide_eq_true (by omega)
              have Sp2 : (a : Int) < (I : Int) := by omega
              have Sq1 : decide ((I : Int) < (mid : Int)) = true := decide_eq_true (by omega)
              have Sq2 : (I : Int) < (mid : Int) := by omega
              have Tp1 : decide ((mid : Int) < (E : Int)) = false := decide_eq_false (by omega)
              have Tp2 : ¬ mid < E := by omega
              have Tp3 : ¬ (mid : Int) < (E : Int) := by omega
              go_wp2_with fail
              refine (HSY1.out _ _ HS kS.1 kS.2).mono ?_
              rintro e WS ⟨rfl, hSS⟩
              clear HS
              have HS := hSS
              clear hSS
              go_wp2
              go_end0
              exact ⟨rfl, by rw [HG.out, if_neg (show ¬ (mid < E ∧ E < b) by omega), if_pos kS, if_neg (show ¬ (I < m ∧ m < E) by omega)]; exact HS.out.1, HS.out.2.1⟩
          · skip
            rcases three (mid < E) (E < b) with kT | kT | kT
            · skip
              have Rp1 : decide ((I : Int) < (m : Int)) = true := decide_eq_true (by omega)
              have Rp2 : (I : Int) < (m : Int) := by omega
              have Rq1 : decide ((m : Int) < (E : Int)) = false := decide_eq_false (by omega)
              have Rq2 : ¬ m < E := by omega
              have Rq3 : ¬ (m : Int) < (E : Int) := by omega
              have Sp1 : decide ((a : Int) < (I : Int)) = true := decide_eq_true (by omega)
              have Sp2 : (a : Int) < (I : Int) := by omega
              have Sq1 : decide ((I : Int) < (mid : Int)) = false := decide_eq_false (by omega)
              have Sq2 : ¬ I < mid := by omega
              have Sq3 : ¬ (I : Int) < (mid : Int) := by omega
              have Tp1 : decide ((mid : Int) < (E : Int)) = true := decide_eq_true (by omega)
              have Tp2 : (mid : Int) < (E : Int) := by omega
              have Tq1 : decide ((E : Int) < (b : Int)) = true := decide_eq_true (by omega)
              have Tq2 : (E : Int) < (b : Int) := by omega
              go_wp2_with fail
              refine (HSY2.out _ _ HS kT.1 kT.2).mono ?_
              rintro e WT ⟨rfl, hST⟩
              clear HS
              have HS := hST
              clear hST
              go_wp2
              go_end0
              exact ⟨rfl, by rw [HG.out, if_pos kT, if_neg (show ¬ (a < I ∧ I < mid) by omega), if_neg (show ¬ (I < m ∧ m < E) by omega)]; exact HS.out.1, HS.out.2.1⟩
            · skip
              have Rp1 : decide ((I : Int) < (m : Int)) = true := decide_eq_true (by omega)
              have Rp2 : (I : Int) < (m : Int) := by omega
              have Rq1 : decide ((m : Int) < (E : Int)) = false := decide_eq_false (by omega)
              have Rq2 : ¬ m < E := by omega
              have Rq3 : ¬ (m : Int) < (E : Int) := by omega
              have Sp1 : decide ((a : Int) < (I : Int)) = true := decide_eq_true (by omega)
              have Sp2 : (a : Int) < (I : Int) := by omega
              have Sq1 : decide ((I : Int) < (mid : Int)) = false := decide_eq_false (by omega)
              have Sq2 : ¬ I < mid := by omega
              have Sq3 : ¬ (I : Int) < (mid : Int) := by omega
              have Tp1 : decide ((mid : Int) < (E : Int)) = true := decide_eq_true (by omega)
              have Tp2 : (mid : Int) < (E : Int) := by omega
              have Tq1 : decide ((E : Int) < (b : Int)) = false := decide_eq_false (by omega)
              have Tq2 : ¬ E < b := by omega
              have Tq3 : ¬ (E : Int) < (b : Int) := by omega
              go_wp2
              go_end0
              exact ⟨rfl, by rw [HG.out, if_neg (show ¬ (mid < E ∧ E < b) by omega), if_neg (show ¬ (a < I ∧ I < mid) by omega), if_neg (show ¬ (I < m ∧ m < E) by omega)]; exact HS.out.1, HS.out.2.1⟩
            · skip
              have Rp1 : decide ((I : Int) < (m : Int)) = true := decide_eq_true (by omega)
              have Rp2 : (I : Int) < (m : Int) := by omega
              have Rq1 : decide ((m : Int) < (E : Int)) = false := decide_eq_false (by omega)
              have Rq2 : ¬ m < E := by omega
              have Rq3 : ¬ (m : Int) < (E : Int) := by omega
              have Sp1 : decide ((a : Int) < (I : Int)) = true := decide_eq_true (by omega)
              have Sp2 : (a : Int) < (I : Int) := by omega
              have Sq1 : decide ((I : Int) < (mid : Int)) = false := decide_eq_false (by omega)
              have Sq2 : ¬ I < mid := by omega
              have Sq3 : ¬ (I : Int) < (mid : Int) := by omega
              have Tp1 : decide ((mid : Int) < (E : Int)) = false := decide_eq_false (by omega)
              have Tp2 : ¬ mid < E := by omega
              have Tp3 : ¬ (mid : Int) < (E : Int) := by omega
              go_wp2
              go_end0
              exact ⟨rfl, by rw [HG.out, if_neg (show ¬ (mid < E ∧ E < b) by omega), if_neg (show ¬ (a < I ∧ I < mid) by omega), if_neg (show ¬ (I < m ∧ m < E) by omega)]; exact HS.out.1, HS.out.2.1⟩
          · skip
            rcases three (mid < E) (E < b) with kT | kT | kT
            · skip
              have Rp1 : decide ((I : Int) < (m : Int)) = true := decide_eq_true (by omega)
              have Rp2 : (I : Int) < (m : Int) := by omega
              have Rq1 : decide ((m : Int) < (E : Int)) = false := decide_eq_false (by omega)
              have Rq2 : ¬ m < E := by omega
              have Rq3 : ¬ (m : Int) < (E : Int) := by omega
              have Sp1 : decide ((a : Int) < (I : Int)) = false := decide_eq_false (by omega)
              have Sp2 : ¬ a < I := by omega
              have Sp3 : ¬ (a : Int) < (I : Int) := by omega
              have Tp1 : decide ((mid : Int) < (E : Int)) = true := decide_eq_true (by omega)
              have Tp2 : (mid : Int) < (E : Int) := by omega
              have Tq1 : decide ((E : Int) < (b : Int)) = true := decide_eq_true (by omega)
              have Tq2 : (E : Int) < (b : Int) := by omega
              go_wp2_with fail
              refine (HSY2.out _ _ HS kT.1 kT.2).mono ?_
              rintro e WT ⟨rfl, hST⟩
              clear HS
              have HS := hST
              clear hST
              go_wp2
              go_end0
              exact ⟨rfl, by rw [HG.out, if_pos kT, if_neg (show ¬ (a < I ∧ I < mid) by omega), if_neg (show ¬ (I < m ∧ m < E) by omega)]; exact HS.out.1, HS.out.2.1⟩
            · skip
              have Rp1 : decide ((I : Int) < (m : Int)) = true := decide_eq_true (by omega)
              have Rp2 : (I : Int) < (m : Int) := by omega
              have Rq1 : decide ((m : Int) < (E : Int)) = false := decide_eq_false (by omega)
              have Rq2 : ¬ m < E := by omega
              have Rq3 : ¬ (m : Int) < (E : Int) := by omega
              have Sp1 : decide ((a : Int) < (I : Int)) = false := decide_eq_false (by omega)
              have Sp2 : ¬ a < I := by omega
              have Sp3 : ¬ (a : Int) < (I : Int) := by omega
              have Tp1 : decide ((mid : Int) < (E : Int)) = true := decide_eq_true (by omega)
              have Tp2 : (mid : Int) < (E : Int) := by omega
              have Tq1 : decide ((E : Int) < (b : Int)) = false := decide_eq_false (by omega)
              have Tq2 : ¬ E < b := by omega
              have Tq3 : ¬ (E : Int) < (b : Int) := by omega
              go_wp2
              go_end0
              exact ⟨rfl, by rw [HG.out, if_neg (show ¬ (mid < E ∧ E < b) by omega), if_neg (show ¬ (a < I ∧ I < mid) by omega), if_neg (show ¬ (I < m ∧ m < E) by omega)]; exact HS.out.1, HS.out.2.1⟩
            · skip
              have Rp1 : decide ((I : Int) < (m : Int)) = true := decide_eq_true (by omega)
              have Rp2 : (I : Int) < (m : Int) := by omega
              have Rq1 : decide ((m : Int) < (E : Int)) = false := decide_eq_false (by omega)
              have Rq2 : ¬ m < E := by omega
              have Rq3 : ¬ (m : Int) < (E : Int) := by omega
              have Sp1 : decide ((a : Int) < (I : Int)) = false := decide_eq_false (by omega)
              have Sp2 : ¬ a < I := by omega
              have Sp3 : ¬ (a : Int) < (I : Int) := by omega
              have Tp1 : decide ((mid : Int) < (E : Int)) = false := decide_eq_false (by omega)
              have Tp2 : ¬ mid < E := by omega
              have Tp3 : ¬ (mid : Int) < (E : Int) := by omega
              go_wp2
              go_end0
              exact ⟨rfl, by rw [HG.out, if_neg (show ¬ (mid < E ∧ E < b) by omega), if_neg (show ¬ (a < I ∧ I < mid) by omega), if_neg (show ¬ (I < m ∧ m < E) by omega)]; exact HS.out.1, HS.out.2.1⟩
        · skip
          rcases three (a < I) (I < mid) with kS | kS | kS
          · skip
            rcases three (mid < E) (E < b) with kT | kT | kT
            · skip
              have Rp1 : decide ((I : Int) < (m : Int)) = false := decide_eq_false (by omega)
              have Rp2 : ¬ I < m := by omega
              have Rp3 : ¬ (I : Int) < (m : Int) := by omega
              have Sp1 : decide ((a : Int) < (I : Int)) = true := decide_eq_true (by omega)
              have Sp2 : (a : Int) < (I : Int) := by omega
              have Sq1 : decide ((I : Int) < (mid : Int)) = true := decide_eq_true (by omega)
              have Sq2 : (I : Int) < (mid : Int) := by omega
              have Tp1 : decide ((mid : Int) < (E : Int)) = true := decide_eq_true (by omega)
              have Tp2 : (mid : Int) < (E : Int) := by omega
              have Tq1 : decide ((E : Int) < (b : Int)) = true := decide_eq_true (by omega)
              have Tq2 : (E : Int) < (b : Int) := by omega
              go_wp2_with fail
              refine (HSY1.out _ _ HS kS.1 kS.2).mono ?_
              rintro e WS ⟨rfl, hSS⟩
              clear HS
              have HS := hSS
              clear hSS
              go_wp2_with fail
              refine (HSY2.out _ _ HS kT.1 kT.2).mono ?_
              rintro e WT ⟨rfl, hST⟩
              clear HS
              have HS := hST
              clear hST
              go_wp2
              go_end0
              exact ⟨rfl, by rw [HG.out, if_pos kT, if_pos kS, if_neg (show ¬ (I < m ∧ m < E) by omega)]; exact HS.out.1, HS.out.2.1⟩
            · skip
              have Rp1 : decide ((I : Int) < (m : Int)) = false := decide_eq_false (by omega)
              have Rp2 : ¬ I < m := by omega
              have Rp3 : ¬ (I : Int) < (m : Int) := by omega
              have Sp1 : decide ((a : Int) < (I : Int)) = true := decide_eq_true (by omega)
              have Sp2 : (a : Int) < (I : Int) := by omega
              have Sq1 : decide ((I : Int) < (mid : Int)) = true := decide_eq_true (by omega)
              have Sq2 : (I : Int) < (mid : Int) := by omega
              have Tp1 : decide ((mid : Int) < (E : Int)) = true := decide_eq_true (by omega)
              have Tp2 : (mid : Int) < (E : Int) := by omega
              have Tq1 : decide ((E : Int) < (b : Int)) = false := decide_eq_false (by omega)
              have Tq2 : ¬ E < b := by omega
              have Tq3 : ¬ (E : Int) < (b : Int) := by omega
              go_wp2_with fail
              refine (HSY1.out _ _ HS kS.1 kS.2).mono ?_
              rintro e WS ⟨rfl, hSS⟩
              clear HS
              have HS := hSS
              clear hSS
              go_wp2
              go_end0
              exact ⟨rfl, by rw [HG.out, if_neg (show ¬ (mid < E ∧ E < b) by omega), if_pos kS, if_neg (show ¬ (I < m ∧ m < E) by omega)]; exact HS.out.1, HS.out.2.1⟩
            · skip
              have Rp1 : decide ((I : Int) < (m : Int)) = false := decide_eq_false (by omega)
              have Rp2 : ¬ I < m := by omega
              have Rp3 : ¬ (I : Int) < (m : Int) := by omega
              have Sp1 : decide ((a : Int) < (I : Int)) = true := decide_eq_true (by omega)
              have Sp2 : (a : Int) < (I : Int) := by omega
              have Sq1 : decide ((I : Int) < (mid : Int)) = true := decide_eq_true (by omega)
              have Sq2 : (I : Int) < (mid : Int) := by omega
              have Tp1 : decide ((mid : Int) < (E : Int)) = false := decide_eq_false (by omega)
              have Tp2 : ¬ mid < E := by omega
              have Tp3 : ¬ (mid : Int) < (E : Int) := by omega
              go_wp2_with fail
              refine (HSY1.out _ _ HS kS.1 kS.2).mono ?_
              rintro e WS ⟨rfl, hSS⟩
              clear HS
              have HS := hSS
              clear hSS
              go_wp2
              go_end0
              exact ⟨rfl, by rw [HG.out, if_neg (show ¬ (mid < E ∧ E < b) by omega), if_pos kS, if_neg (show ¬ (I < m ∧ m < E) by omega)]; exact HS.out.1, HS.out.2.1⟩
          · skip
            rcases three (mid < E) (E < b) with kT | kT | kT
            · skip
              have Rp1 : decide ((I : Int) < (m : Int)) = false := decide_eq_false (by omega)
              have Rp2 : ¬ I < m := by omega
              have Rp3 : ¬ (I : Int) < (m : Int) := by omega
              have Sp1 : decide ((a : Int) < (I : Int)) = true := decide_eq_true (by omega)
              have Sp2 : (a : Int) < (I : Int) := by omega
              have Sq1 : decide ((I : Int) < (mid : Int)) = false := decide_eq_false (by omega)
              have Sq2 : ¬ I < mid := by omega
              have Sq3 : ¬ (I : Int) < (mid : Int) := by omega
              have Tp1 : decide ((mid : Int) < (E : Int)) = true := decide_eq_true (by omega)
              have Tp2 : (mid : Int) < (E : Int) := by omega
              have Tq1 : decide ((E : Int) < (b : Int)) = true := decide_eq_true (by omega)
              have Tq2 : (E : Int) < (b : Int) := by omega
              go_wp2_with fail
              refine (HSY2.out _ _ HS kT.1 kT.2).mono ?_
              rintro e WT ⟨rfl, hST⟩
              clear HS
              have HS := hST
              clear hST
              go_wp2
              go_end0
              exact ⟨rfl, by rw [HG.out, if_pos kT, if_neg (show ¬ (a < I ∧ I < mid) by omega), if_neg (show ¬ (I < m ∧ m < E) by omega)]; exact HS.out.1, HS.out.2.1⟩
            · skip
              have Rp1 : decide ((I : Int) < (m : Int)) = false := decide_eq_false (by omega)
              have Rp2 : ¬ I < m := by omega
              have Rp3 : ¬ (I : Int) < (m : Int) := by omega
              have Sp1 : decide ((a : Int) < (I : Int)) = true := decide_eq_true (by omega)
              have Sp2 : (a : Int) < (I : Int) := by omega
              have Sq1 : decide ((I : Int) < (mid : Int)) = false := decide_eq_false (by omega)
              have Sq2 : ¬ I < mid := by omega
              have Sq3 : ¬ (I : Int) < (mid : Int) := by omega
              have Tp1 : decide ((mid : Int) < (E : Int)) = true := decide_eq_true (by omega)
              have Tp2 : (mid : Int) < (E : Int) := by omega
              have Tq1 : decide ((E : Int) < (b : Int)) = false := decide_eq_false (by omega)
              have Tq2 : ¬ E < b := by omega
              have Tq3 : ¬ (E : Int) < (b : Int) := by omega
              go_wp2
              go_end0
              exact ⟨rfl, by rw [HG.out, if_neg (show ¬ (mid < E ∧ E < b) by omega), if_neg (show ¬ (a < I ∧ I < mid) by omega), if_neg (show ¬ (I < m ∧ m < E) by omega)]; exact HS.out.1, HS.out.2.1⟩
            · skip
              have Rp1 : decide ((I : Int) < (m : Int)) = false := decide_eq_false (by omega)
              have Rp2 : ¬ I < m := by omega
              have Rp3 : ¬ (I : Int) < (m : Int) := by omega
              have Sp1 : decide ((a : Int) < (I : Int)) = true := decide_eq_true (by omega)
              have Sp2 : (a : Int) < (I : Int) := by omega
              have Sq1 : decide ((I : Int) < (mid : Int)) = false := decide_eq_false (by omega)
              have Sq2 : ¬ I < mid := by omega
              have Sq3 : ¬ (I : Int) < (mid : Int) := by omega
              have Tp1 : decide ((mid : Int) < (E : Int)) = false := decide_eq_false (by omega)
              have Tp2 : ¬ mid < E := by omega
              have Tp3 : ¬ (mid : Int) < (E : Int) := by omega
              go_wp2
              go_end0
              exact ⟨rfl, by rw [HG.out, if_neg (show ¬ (mid < E ∧ E < b) by omega), if_neg (show ¬ (a < I ∧ I < mid) by omega), if_neg (show ¬ (I < m ∧ m < E) by omega)]; exact HS.out.1, HS.out.2.1⟩
          · skip
            rcases three (mid < E) (E < b) with kT | kT | kT
            · skip
              have Rp1 : decide ((I : Int) < (m : Int)) = false := decide_eq_false (by omega)
              have Rp2 : ¬ I < m := by omega
              have Rp3 : ¬ (I : Int) < (m : Int) := by omega
              have Sp1 : decide ((a : Int) < (I : Int)) = false := decide_eq_false (by omega)
              have Sp2 : ¬ a < I := by omega
              have Sp3 : ¬ (a : Int) < (I : Int) := by omega
              have Tp1 : decide ((mid : Int) < (E : Int)) = true := decide_eq_true (by omega)
              have Tp2 : (mid : Int) < (E : Int) := by omega
              have Tq1 : decide ((E : Int) < (b : Int)) = true := decide_eq_true (by omega)
              have Tq2 : (E : Int) < (b : Int) := by omega
              go_wp2_with fail
              refine (HSY2.out _ _ HS kT.1 kT.2).mono ?_
              rintro e WT ⟨rfl, hST⟩
              clear HS
              have HS := hST
              clear hST
              go_wp2
              go_end0
              exact ⟨rfl, by rw [HG.out, if_pos kT, if_neg (show ¬ (a < I ∧ I < mid) by omega), if_neg (show ¬ (I < m ∧ m < E) by omega)]; exact HS.out.1, HS.out.2.1⟩
            · skip
              have Rp1 : decide ((I : Int) < (m : Int)) = false := decide_eq_false (by omega)
              have Rp2 : ¬ I < m := by omega
              have Rp3 : ¬ (I : Int) < (m : Int) := by omega
              have Sp1 : decide ((a : Int) < (I : Int)) = false := decide_eq_false (by omega)
              have Sp2 : ¬ a < I := by omega
              have Sp3 : ¬ (a : Int) < (I : Int) := by omega
              have Tp1 : decide ((mid : Int) < (E : Int)) = true := decide_eq_true (by omega)
              have Tp2 : (mid : Int) < (E : Int) := by omega
              have Tq1 : decide ((E : Int) < (b : Int)) = false := decide_eq_false (by omega)
              have Tq2 : ¬ E < b := by omega
              have Tq3 : ¬ (E : Int) < (b : Int) := by omega
              go_wp2
              go_end0
              exact ⟨rfl, by rw [HG.out, if_neg (show ¬ (mid < E ∧ E < b) by omega), if_neg (show ¬ (a < I ∧ I < mid) by omega), if_neg (show ¬ (I < m ∧ m < E) by omega)]; exact HS.out.1, HS.out.2.1⟩
            · skip
              have Rp1 : decide ((I : Int) < (m : Int)) = false := decide_eq_false (by omega)
              have Rp2 : ¬ I < m := by omega
              have Rp3 : ¬ (I : Int) < (m : Int) := by omega
              have Sp1 : decide ((a : Int) < (I : Int)) = false := decide_eq_false (by omega)
              have Sp2 : ¬ a < I := by omega
              have Sp3 : ¬ (a : Int) < (I : Int) := by omega
              have Tp1 : decide ((mid : Int) < (E : Int)) = false := decide_eq_false (by omega)
              have Tp2 : ¬ mid < E := by omega
              have Tp3 : ¬ (mid : Int) < (E : Int) := by omega
              go_wp2
              go_end0
              exact ⟨rfl, by rw [HG.out, if_neg (show ¬ (mid < E ∧ E < b) by omega), if_neg (show ¬ (a < I ∧ I < mid) by omega), if_neg (show ¬ (I < m ∧ m < E) by omega)]; exact HS.out.1, HS.out.2.1⟩
end Go.Proofs.YtmjnipifpeehgaaDoor.Q.I
