/- The stable sort of fields, walked whole. -/
import Derived.Test.YtmjnipifpeehgaaDoorSRsF
set_option linter.unusedSimpArgs false
set_option linter.unusedVariables false
namespace Go.Proofs.YtmjnipifpeehgaaDoor.Q.I
open Go.RowKit Go.Proofs.YtmjnipifpeehgaaDoorW.PrintWords Go.Proofs.YtmjnipifpeehgaaDoorW.PrintLast Go.Proofs.YtmjnipifpeehgaaDoorW.PrintMore Go.Sort Go.Proofs.YtmjnipifpeehgaaDoor.St Go.Proofs.YtmjnipifpeehgaaDoor.Q
theorem symMerge_calls (base g o cap : Nat) (qz : Array Value) (hg : base ≤ g) (fq : Nat) (lb : Array Value) (c : Int → Int → Int) (eg : ∀ args w, (callFunc fq args).run Tryd.prog w = .ok (.enter fq args) w) :
    ∀ (f : Nat) (d : Array Int) (a m b : Nat) (w : World), CmpF base w fq lb c → base ≤ w.heap.size → RowA g o qz w d → a < m → m < b → b ≤ d.size → b - a ≤ f → d.size ≤ 1099511627776 →
      Calls Tryd.prog 70 #[.slice (some ⟨g, o, none⟩) d.size cap, .int .i64 a, .int .i64 m, .int .i64 b, .func (.func fq) #[] lb] w fun e w' => e = .returned (.tuple #[]) ∧ RowA g o qz w' (symM (ltF c) f a m b d) ∧ Below base w w'
  | 0, d, a, m, b, w, hcmp, hbw, hR, h1, h2, hb, hf, hn => by omega
  | f + 1, d, a, m, b, w, hcmp, hbw, hR, h1, h2, hb, hf, hn => by
    by_cases k1 : m - a = 1
    · rw [symM_one (ltF c) f a m b d k1]
      exact symOneL_calls base g o cap qz hg fq lb c eg d a m b w hcmp hbw hR k1 (by omega) hb hn
    · by_cases k2 : b - m = 1
      · rw [symM_two (ltF c) f a m b d k1 k2]
        exact symOneR_calls base g o cap qz hg fq lb c eg d a m b w hcmp hbw hR k1 (by omega) k2 hb hn
      · exact symGen_calls base g o cap qz hg fq lb c eg f (symMerge_calls base g o cap qz hg fq lb c eg f) d a m b w hcmp hbw hR h1 h2 k1 k2 hb hf hn
theorem insBl_go (lt : Int → Int → Bool) (n f a b : Nat) (d : Array Int) (hf : 0 < f) (h : b ≤ n) : insBl lt n f a b d = insBl lt n (f - 1) b (b + 20) (insertionSort lt d a b) := by
  obtain ⟨f, rfl⟩ : ∃ k, f = k + 1 := ⟨f - 1, by omega⟩
  conv => lhs; unfold insBl
  rw [if_pos h]; rfl
theorem insBl_end (lt : Int → Int → Bool) (n f a b : Nat) (d : Array Int) (hf : 0 < f) (h : ¬ b ≤ n) : insBl lt n f a b d = insertionSort lt d a n := by
  obtain ⟨f, rfl⟩ : ∃ k, f = k + 1 := ⟨f - 1, by omega⟩
  unfold insBl
  rw [if_neg h]
theorem mrgBl_go (lt : Int → Int → Bool) (n k f a b : Nat) (d : Array Int) (hf : 0 < f) (h : b ≤ n) : mrgBl lt n k f a b d = mrgBl lt n k (f - 1) b (b + 2 * k) (symM lt (b - a + 1) a (a + k) b d) := by
  obtain ⟨f, rfl⟩ : ∃ k, f = k + 1 := ⟨f - 1, by omega⟩
  conv => lhs; unfold mrgBl
  rw [if_pos h]; rfl
theorem mrgBl_end (lt : Int → Int → Bool) (n k f a b : Nat) (d : Array Int) (hf : 0 < f) (h : ¬ b ≤ n) : mrgBl lt n k f a b d = if a + k < n then symM lt (n - a + 1) a (a + k) n d else d := by
  obtain ⟨f, rfl⟩ : ∃ k, f = k + 1 := ⟨f - 1, by omega⟩
  unfold mrgBl
  rw [if_neg h]
theorem stLp_go (lt : Int → Int → Bool) (n f k : Nat) (d : Array Int) (hf : 0 < f) (h : k < n) : stLp lt n f k d = stLp lt n (f - 1) (k * 2) (mrgBl lt n k (n + 1) 0 (2 * k) d) := by
  obtain ⟨f, rfl⟩ : ∃ k, f = k + 1 := ⟨f - 1, by omega⟩
  conv => lhs; unfold stLp
  rw [if_pos h]; rfl
theorem stLp_end (lt : Int → Int → Bool) (n f k : Nat) (d : Array Int) (hf : 0 < f) (h : ¬ k < n) : stLp lt n f k d = d := by
  obtain ⟨f, rfl⟩ : ∃ k, f = k + 1 := ⟨f - 1, by omega⟩
  unfold stLp
  rw [if_neg h]
set_option maxHeartbeats 8000000 in
set_option maxRecDepth 100000 in
theorem stable_calls (base g o cap : Nat) (qz : Array Value) (hg : base ≤ g) (fq : Nat) (lb : Array Value) (c : Int → Int → Int) (eg : ∀ args w, (callFunc fq args).run Tryd.prog w = .ok (.enter fq args) w) (d0 : Array Int) (w : World) (hcmp : CmpF base w fq lb c)
    (hbw : base ≤ w.heap.size) (hR : RowA g o qz w d0) (hn : d0.size ≤ 1099511627776) :
    Calls Tryd.prog 36 #[.slice (some ⟨g, o, none⟩) d0.size cap, .int .i64 d0.size, .func (.func fq) #[] lb] w fun e w' => e = .returned (.tuple #[]) ∧ RowA g o qz w' (stable (ltF c) d0.size d0) ∧ Below base w w' := by
  have HR := Lib.hid hR
  have HB0 := Lib.hid (Below.refl base w)
  obtain ⟨N, hN⟩ : ∃ N, N = d0.size := ⟨_, rfl⟩
  rw [← hN] at hn ⊢
  have HN := Lib.hid hN
  obtain ⟨T1, hT1⟩ : ∃ T1, T1 = insBl (ltF c) N (N + 1) 0 20 d0 := ⟨_, rfl⟩
  obtain ⟨T2, hT2⟩ : ∃ T2, T2 = stLp (ltF c) N (N + 1) 20 T1 := ⟨_, rfl⟩
  rw [show stable (ltF c) N d0 = T2 by unfold stable; rw [hT2, hT1]]
  have HT1 := Lib.hid hT1
  have HT2 := Lib.hid hT2
  have HINS := Lib.hid (fun (d : Array Int) (a b : Nat) (W : World) (h : Hid (RowA g o qz W d ∧ Below base w W ∧ d.size = N)) (h1 : b ≤ N) (h2 : a ≤ N) =>
    show Calls Tryd.prog 69 #[.slice (some ⟨g, o, none⟩) N cap, .int .i64 a, .int .i64 b, .func (.func fq) #[] lb] W fun e w' => e = .returned (.tuple #[]) ∧ Hid (RowA g o qz w' (insertionSort (ltF c) d a b) ∧ Below base w w' ∧ (insertionSort (ltF c) d a b).size = N) by
      (have := insertion_calls base g o cap qz hg fq lb c eg d a b W (hcmp.shift h.out.2.1) (Nat.le_trans hbw h.out.2.1.size) h.out.1 (by rw [h.out.2.2]; exact h1) (by rw [h.out.2.2]; exact h2) (by rw [h.out.2.2]; exact hn)); (rw [h.out.2.2] at this)
      exact this.mono (fun e w' ⟨q1, q2, q3⟩ => ⟨q1, Lib.hid ⟨q2, h.out.2.1.trans q3, by rw [insertionSort_size]; exact h.out.2.2⟩⟩))
  have HSYM := Lib.hid (fun (F : Nat) (d : Array Int) (a m b : Nat) (W : World) (h : Hid (RowA g o qz W d ∧ Below base w W ∧ d.size = N)) (h1 : a < m) (h2 : m < b) (h3 : b ≤ N) (h4 : b - a ≤ F) =>
    show Calls Tryd.prog 70 #[.slice (some ⟨g, o, none⟩) N cap, .int .i64 a, .int .i64 m, .int .i64 b, .func (.func fq) #[] lb] W fun e w' => e = .returned (.tuple #[]) ∧ Hid (RowA g o qz w' (symM (ltF c) F a m b d) ∧ Below base w w' ∧ (symM (ltF c) F a m b d).size = N) by
      (have := symMerge_calls base g o cap qz hg fq lb c eg F d a m b W (hcmp.shift h.out.2.1) (Nat.le_trans hbw h.out.2.1.size) h.out.1 h1 h2 (by rw [h.out.2.2]; exact h3) h4 (by rw [h.out.2.2]; exact hn)); (rw [h.out.2.2] at this)
      exact this.mono (fun e w' ⟨q1, q2, q3⟩ => ⟨q1, Lib.hid ⟨q2, h.out.2.1.trans q3, by rw [symM_size]; exact h.out.2.2⟩⟩))
  have HS0 := Lib.hid (And.intro hR (And.intro (Below.refl base w) hN.symm))
  clear hR hN hcmp hT1 hT2 HR HB0
  go_enter Tryd.func36, Tryd.ntmps36
  go_wp2
  go_loopg [7, 8] (N + 1) (fun gg v7 v8 wr => ∃ (a b f : Nat) (d : Array Int), Hid (b = a + 20) ∧ a ≤ N ∧ N - a < f ∧ N - a ≤ gg ∧ v7 = .int .i64 a ∧ v8 = .int .i64 b ∧ Hid (insBl (ltF c) N f a b d = T1) ∧ Hid (RowA g o qz wr d ∧ Below base w wr ∧ d.size = N))
  case atStart => exact ⟨0, 20, N + 1, d0, Lib.hid rfl, Nat.zero_le _, by omega, by omega, rfl, rfl, Lib.hid HT1.out.symm, HS0⟩
  case round =>
    (clear HS0 HT1); (obtain ⟨a, b, f, d, HAB, haN, hff, hgg, rfl, rfl, HD, HS⟩ := hrel); (have hab := HAB.out)
    by_cases hbN : b ≤ N
    · have hz : (b : Int) ≤ (N : Int) := by omega
      (have HD2 := Lib.hid ((insBl_go (ltF c) N f a b d (by omega) hbN).symm.trans HD.out)); (have hc := HINS.out d a b wr HS hbN haN); (obtain ⟨Q, hQ⟩ : ∃ Q, Q = b + 20 := ⟨_, rfl⟩); (have WQ : Hid (IntKind.i64.wrap ((b : Int) + 20) = (Q : Int)) := Lib.hid ((wrap_small _ (by omega) (by omega)).trans (by omega))); (have nx : N - b < f - 1 ∧ N - b ≤ gk - 1 ∧ gk - 1 < gk := by omega); (rw [← hQ] at HD2); (have HQ := Lib.hid hQ); (clear HD HS hQ hab); (have wq := WQ.out); (go_wp2_with fail); (clear wq); (refine hc.mono ?_); (rintro e w2 ⟨rfl, HS2⟩); (clear hc); (have wq := WQ.out); (go_wp2); (clear wq); (go_roundg (gk - 1))
      case measure => exact nx.2.2
      case rel => exact ⟨b, Q, f - 1, insertionSort (ltF c) d a b, HQ, hbN, nx.1, nx.2.1, rfl, rfl, HD2, HS2⟩
    · have hz : ¬ (b : Int) ≤ (N : Int) := by omega
      (have HD2 := Lib.hid ((insBl_end (ltF c) N f a b d (by omega) hbN).symm.trans HD.out)); (have hc := HINS.out d a N wr HS (Nat.le_refl _) haN); (clear HD HS hab); (go_wp2_with fail); (refine hc.mono ?_); (rintro e w2 ⟨rfl, HS2⟩); (rw [HD2.out] at HS2); (clear hc HD2); (go_wp2)
      go_loopg [6] (N + 1) (fun gg v6 wr => ∃ (k f : Nat) (d : Array Int), 0 < k ∧ k ≤ 2 * N + 40 ∧ N - k < f ∧ N - k ≤ gg ∧ v6 = .int .i64 k ∧ Hid (stLp (ltF c) N f k d = T2) ∧ Hid (RowA g o qz wr d ∧ Below base w wr ∧ d.size = N))
      case atStart => exact ⟨20, N + 1, T1, by omega, by omega, by omega, by omega, rfl, Lib.hid HT2.out.symm, HS2⟩
      case round =>
        (clear HS2 HT2); (obtain ⟨k, f2, d2, hk0, hkN, hff2, hgg2, rfl, HD, HS⟩ := hrel)
        by_cases hkn : k < N
        · have hz2 : (k : Int) < (N : Int) := by omega
          (have HD2 := Lib.hid ((stLp_go (ltF c) N f2 k d2 (by omega) hkn).symm.trans HD.out)); (obtain ⟨K2, hK2⟩ : ∃ K2, K2 = 2 * k := ⟨_, rfl⟩); (obtain ⟨KK, hKK⟩ : ∃ KK, KK = k * 2 := ⟨_, rfl⟩); (obtain ⟨T3, hT3⟩ : ∃ T3, T3 = mrgBl (ltF c) N k (N + 1) 0 (2 * k) d2 := ⟨_, rfl⟩); (have HT3 := Lib.hid hT3); (rw [← hK2] at HT3); (rw [← hT3, ← hKK] at HD2); (obtain ⟨G2, hG2⟩ : ∃ G2, G2 = gk - 1 := ⟨_, rfl⟩); (have mea2 : G2 < gk := by omega); (have nx2 : 0 < KK ∧ KK ≤ 2 * N + 40 ∧ N - KK < f2 - 1 ∧ N - KK ≤ G2 := by omega); (have W2K : Hid (IntKind.i64.wrap (2 * (k : Int)) = (K2 : Int)) := Lib.hid ((wrap_small _ (by omega) (by omega)).trans (by omega))); (have WKK : Hid (IntKind.i64.wrap ((k : Int) * 2) = (KK : Int)) := Lib.hid ((wrap_small _ (by omega) (by omega)).trans (by omega))); (have HK2 := Lib.hid hK2); (clear HD hT3 hKK hK2 hG2); (have w2k := W2K.out); (have wkk := WKK.out); (go_wp2); (clear w2k); (clear wkk)
          go_loopg [7, 8] (N + 1) (fun gg v7 v8 wr => ∃ (a b f : Nat) (d : Array Int), Hid (b = a + K2) ∧ a ≤ N ∧ N - a < f ∧ N - a ≤ gg ∧ v7 = .int .i64 a ∧ v8 = .int .i64 b ∧ Hid (mrgBl (ltF c) N k f a b d = T3) ∧ Hid (RowA g o qz wr d ∧ Below base w wr ∧ d.size = N))
          case atStart => exact ⟨0, K2, N + 1, d2, Lib.hid (Nat.zero_add K2).symm, Nat.zero_le _, by omega, by omega, rfl, rfl, Lib.hid HT3.out.symm, HS⟩
          case round =>
            (clear HS HT3); (obtain ⟨a3, b3, f3, d3, HAB3, haN3, hff3, hgg3, rfl, rfl, HD, HS⟩ := hrel); (have hab3 := HAB3.out); (have hK2 := HK2.out); (obtain ⟨M3, hM3⟩ : ∃ M3, M3 = a3 + k := ⟨_, rfl⟩); (have WM : Hid (IntKind.i64.wrap ((a3 : Int) + (k : Int)) = (M3 : Int)) := Lib.hid ((wrap_small _ (by omega) (by omega)).trans (by omega)))
            by_cases hbN3 : b3 ≤ N
            · have hz3 : (b3 : Int) ≤ (N : Int) := by omega
              (have HD3 := Lib.hid ((mrgBl_go (ltF c) N k f3 a3 b3 d3 (by omega) hbN3).symm.trans HD.out)); (rw [← hM3] at HD3); (have hc := HSYM.out (b3 - a3 + 1) d3 a3 M3 b3 wr HS (by omega) (by omega) hbN3 (by omega)); (obtain ⟨Q3, hQ3⟩ : ∃ Q3, Q3 = b3 + 2 * k := ⟨_, rfl⟩); (rw [← hQ3] at HD3); (have WQ3 : Hid (IntKind.i64.wrap ((b3 : Int) + (K2 : Int)) = (Q3 : Int)) := Lib.hid ((wrap_small _ (by omega) (by omega)).trans (by omega))); (have HQ3 : Hid (Q3 = b3 + K2) := Lib.hid (by omega)); (have nx3 : N - b3 < f3 - 1 ∧ N - b3 ≤ gk - 1 ∧ gk - 1 < gk := by omega); (clear HD HS hM3 hQ3 hab3 hK2); (have w2k := W2K.out); (have wkk := WKK.out); (have wm := WM.out); (have wq3 := WQ3.out); (go_wp2_with fail); (clear w2k); (clear wkk); (clear wm); (clear wq3); (refine hc.mono ?_); (rintro e w3 ⟨rfl, HS3⟩); (clear hc); (have w2k := W2K.out); (have wkk := WKK.out); (have wm := WM.out); (have wq3 := WQ3.out); (go_wp2); (clear w2k); (clear wkk); (clear wm); (clear wq3); (go_roundg (gk - 1))
              case measure => exact nx3.2.2
              case rel => exact ⟨b3, Q3, f3 - 1, symM (ltF c) (b3 - a3 + 1) a3 M3 b3 d3, HQ3, hbN3, nx3.1, nx3.2.1, rfl, rfl, HD3, HS3⟩
            · have hz3 : ¬ (b3 : Int) ≤ (N : Int) := by omega
              (have HD3 := Lib.hid ((mrgBl_end (ltF c) N k f3 a3 b3 d3 (by omega) hbN3).symm.trans HD.out)); (rw [← hM3] at HD3)
              by_cases hMN : M3 < N
              · have hz4 : (M3 : Int) < (N : Int) := by omega
                (have HD4 := Lib.hid ((if_pos hMN).symm.trans HD3.out)); (have hc := HSYM.out (N - a3 + 1) d3 a3 M3 N wr HS (by omega) hMN (Nat.le_refl _) (by omega)); (clear HD HS hM3 HD3 hab3 hK2); (have w2k := W2K.out); (have wkk := WKK.out); (have wm := WM.out); (go_wp2_with fail); (clear w2k); (clear wkk); (clear wm); (refine hc.mono ?_); (rintro e w3 ⟨rfl, HS3⟩); (rw [HD4.out] at HS3); (clear hc); (have w2k := W2K.out); (have wkk := WKK.out); (have wm := WM.out); (go_wp2); (clear w2k); (clear wkk); (clear wm); (go_roundg G2)
                case measure => exact mea2
                case rel => exact ⟨KK, f2 - 1, T3, nx2.1, nx2.2.1, nx2.2.2.1, nx2.2.2.2, rfl, HD2, HS3⟩
              · have hz4 : ¬ (M3 : Int) < (N : Int) := by omega
                (have HD4 := Lib.hid ((if_neg hMN).symm.trans HD3.out)); (have HS3 := HS); (rw [HD4.out] at HS3); (clear HD HS hM3 HD3 hab3 hK2); (have w2k := W2K.out); (have wkk := WKK.out); (have wm := WM.out); (go_wp2); (clear w2k); (clear wkk); (clear wm); (go_roundg G2)
                case measure => exact mea2
                case rel => exact ⟨KK, f2 - 1, T3, nx2.1, nx2.2.1, nx2.2.2.1, nx2.2.2.2, rfl, HD2, HS3⟩
        · have hz2 : ¬ (k : Int) < (N : Int) := by omega
          (have HD2 := Lib.hid ((stLp_end (ltF c) N f2 k d2 (by omega) hkn).symm.trans HD.out)); (clear HD); (go_wp2); (go_end0); (exact ⟨rfl, by rw [← HD2.out]; exact HS.out.1, HS.out.2.1⟩)
end Go.Proofs.YtmjnipifpeehgaaDoor.Q.I
