/- Stable sorting, plain: the library's text row for row over an array, and what it comes to: the stable order. -/
import Derived.Sort.Defs
set_option linter.unusedSimpArgs false
set_option linter.unusedVariables false
namespace Go.Proofs.YtmjnipifpeehgaaDoor.St
open Go.Sort
variable {α : Type}
section
variable (le : α → α → Bool)
/-- merged, of equals the left one first -/
def mrg : List α → List α → List α
  | [], v => v
  | x :: s, [] => x :: s
  | x :: s, y :: t => if le x y then x :: mrg s (y :: t) else y :: mrg (x :: s) t
termination_by u v => u.length + v.length
theorem mrg_nil_left (v : List α) : mrg le [] v = v := by unfold mrg; rfl
theorem mrg_nil_right (u : List α) : mrg le u [] = u := by cases u <;> (unfold mrg; rfl)
theorem mrg_cons (x y : α) (s t : List α) : mrg le (x :: s) (y :: t) = if le x y then x :: mrg le s (y :: t) else y :: mrg le (x :: s) t := by
  conv => lhs; unfold mrg
/-- the stable order -/
def stab : List α → List α
  | [] => []
  | x :: t => mrg le [x] (stab t)
variable {le}
variable (tot : ∀ x y, le x y = false → le y x = true) (tr : ∀ x y z, le x y = true → le y z = true → le x z = true)
include tot tr
theorem ins_mrg (x : α) : ∀ (n : Nat) (s t : List α), s.length + t.length ≤ n → mrg le [x] (mrg le s t) = mrg le (mrg le [x] s) t
  | _, [], t, _ => by rw [mrg_nil_left, mrg_nil_right]
  | _, a :: s, [], _ => by rw [mrg_nil_right, mrg_nil_right]
  | 0, a :: s, b :: t, h => by simp at h
  | n + 1, a :: s, b :: t, h => by
    have e : mrg le [x] (a :: s) = if le x a then x :: a :: s else a :: mrg le [x] s := by rw [mrg_cons, mrg_nil_left]
    simp only [List.length_cons] at h
    rw [e, mrg_cons]
    cases hab : le a b with
    | true =>
      rw [if_pos rfl, mrg_cons]
      cases hxa : le x a with
      | true =>
        rw [if_pos rfl, if_pos rfl, mrg_nil_left, mrg_cons, if_pos (tr x a b hxa hab), mrg_cons, if_pos hab]
      | false =>
        rw [if_neg (by simp), if_neg (by simp), mrg_cons, if_pos hab, ins_mrg x n s (b :: t) (by simp only [List.length_cons]; omega)]
    | false =>
      rw [if_neg (by simp), mrg_cons]
      have hba := tot a b hab
      cases hxb : le x b with
      | true =>
        rw [if_pos rfl, if_pos (tr x b a hxb hba), mrg_nil_left, mrg_cons, if_pos hxb, mrg_cons, if_neg (by rw [hab]; simp)]
      | false =>
        rw [if_neg (by simp), ins_mrg x n (a :: s) t (by simp only [List.length_cons]; omega), e]
        cases hxa : le x a with
        | true => rw [if_pos rfl, mrg_cons, if_neg (by rw [hxb]; simp)]
        | false => rw [if_neg (by simp), mrg_cons, if_neg (by rw [hab]; simp)]
theorem stab_append : ∀ (u v : List α), stab le (u ++ v) = mrg le (stab le u) (stab le v)
  | [], v => by rw [List.nil_append]; show _ = mrg le [] _; rw [mrg_nil_left]
  | x :: u, v => by
    rw [List.cons_append]
    show mrg le [x] (stab le (u ++ v)) = mrg le (mrg le [x] (stab le u)) (stab le v)
    rw [stab_append u v, ins_mrg tot tr x _ _ _ (Nat.le_refl _)]
omit tot tr in
/-- a merge falls apart where all of the left ends are ahead of all of the right ends -/
theorem mrg_split : ∀ (n : Nat) (u1 u2 v1 v2 : List α), u1.length + v1.length ≤ n → (∀ x ∈ u1, ∀ y ∈ v2, le x y = true) → (∀ y ∈ v1, ∀ x ∈ u2, le x y = false) →
    mrg le (u1 ++ u2) (v1 ++ v2) = mrg le u1 v1 ++ mrg le u2 v2
  | _, [], u2, [], v2, _, _, _ => by rw [mrg_nil_left]; rfl
  | 0, x :: u1, u2, v1, v2, h, _, _ => by simp at h
  | 0, [], u2, y :: v1, v2, h, _, _ => by simp at h
  | n + 1, x :: u1, u2, [], v2, h, h1, h2 => by
    simp only [List.length_cons, List.length_nil] at h
    rw [List.cons_append, List.nil_append, mrg_nil_right]
    have ih := mrg_split n u1 u2 [] v2 (by simp; omega) (fun a ha => h1 a (by simp [ha])) h2
    rw [List.nil_append, mrg_nil_right] at ih
    cases v2 with
    | nil => rw [mrg_nil_right, mrg_nil_right]; rfl
    | cons b v2 => rw [mrg_cons, if_pos (h1 x (by simp) b (by simp)), ih]; rfl
  | n + 1, [], u2, y :: v1, v2, h, h1, h2 => by
    simp only [List.length_cons, List.length_nil] at h
    rw [List.cons_append, List.nil_append, mrg_nil_left]
    have ih := mrg_split n [] u2 v1 v2 (by simp; omega) h1 (fun a ha => h2 a (by simp [ha]))
    rw [List.nil_append, mrg_nil_left] at ih
    cases u2 with
    | nil => rw [mrg_nil_left, mrg_nil_left]; rfl
    | cons a u2 => rw [mrg_cons, if_neg (by rw [h2 y (by simp) a (by simp)]; simp), ih]; rfl
  | n + 1, x :: u1, u2, y :: v1, v2, h, h1, h2 => by
    simp only [List.length_cons] at h
    rw [List.cons_append, List.cons_append, mrg_cons, mrg_cons]
    have i1 := mrg_split n u1 u2 (y :: v1) v2 (by simp only [List.length_cons]; omega) (fun a ha => h1 a (by simp [ha])) h2
    have i2 := mrg_split n (x :: u1) u2 v1 v2 (by simp only [List.length_cons]; omega) h1 (fun a ha => h2 a (by simp [ha]))
    rw [List.cons_append] at i1 i2
    split
    · rw [i1]; rfl
    · rw [i2]; rfl
end
variable [Inhabited α]
/-- swapRange -/
def swR (a b : Nat) : Nat → Array α → Array α
  | 0, d => d
  | n + 1, d => swR (a + 1) (b + 1) n (swp d a b)
/-- rotate's loop -/
def rot (m : Nat) : Nat → Nat → Nat → Array α → Array α
  | 0, _, _, d => d
  | f + 1, i, j, d => if i = j then swR (m - i) m i d else if i > j then rot m f (i - j) j (swR (m - i) m j d) else rot m f i (j - i) (swR (m - i) (m + j - i) i d)
/-- the search by halves -/
def bs (p : Nat → Bool) : Nat → Nat → Nat → Nat
  | 0, i, _ => i
  | f + 1, i, j => if i < j then (if p ((i + j) / 2) then bs p f ((i + j) / 2 + 1) j else bs p f i ((i + j) / 2)) else i
def mvUp : Nat → Nat → Array α → Array α
  | 0, _, d => d
  | n + 1, k, d => mvUp n (k + 1) (swp d k (k + 1))
def mvDn : Nat → Nat → Array α → Array α
  | 0, _, d => d
  | n + 1, k, d => mvDn n (k - 1) (swp d k (k - 1))
section
variable (lt : α → α → Bool)
def symM : Nat → Nat → Nat → Nat → Array α → Array α
  | 0, _, _, _, d => d
  | f + 1, a, m, b, d =>
    if m - a = 1 then mvUp (bs (fun h => lt d[h]! d[a]!) (b - m + 1) m b - 1 - a) a d
    else if b - m = 1 then mvDn (m - bs (fun h => !lt d[m]! d[h]!) (m - a + 1) a m) m d
    else
      let mid := (a + b) / 2
      let n := mid + m
      let s0 := if m > mid then n - b else a
      let r0 := if m > mid then mid else m
      let st := bs (fun c => !lt d[n - 1 - c]! d[c]!) (r0 - s0 + 1) s0 r0
      let en := n - st
      let d1 := if st < m ∧ m < en then rot m (en - st + 1) (m - st) (en - m) d else d
      let d2 := if a < st ∧ st < mid then symM f a st mid d1 else d1
      if mid < en ∧ en < b then symM f mid en b d2 else d2
def insBl (n : Nat) : Nat → Nat → Nat → Array α → Array α
  | 0, _, _, d => d
  | f + 1, a, b, d => if b ≤ n then insBl n f b (b + 20) (insertionSort lt d a b) else insertionSort lt d a n
def mrgBl (n k : Nat) : Nat → Nat → Nat → Array α → Array α
  | 0, _, _, d => d
  | f + 1, a, b, d => if b ≤ n then mrgBl n k f b (b + 2 * k) (symM lt (b - a + 1) a (a + k) b d) else if a + k < n then symM lt (n - a + 1) a (a + k) n d else d
def stLp (n : Nat) : Nat → Nat → Array α → Array α
  | 0, _, d => d
  | f + 1, k, d => if k < n then stLp n f (k * 2) (mrgBl lt n k (n + 1) 0 (2 * k) d) else d
def stable (n : Nat) (d : Array α) : Array α := stLp lt n (n + 1) 20 (insBl lt n (n + 1) 0 20 d)
end
omit [Inhabited α] in
theorem set_at (u v : α) (Z : List α) : ∀ X : List α, (X ++ u :: Z).set X.length v = X ++ v :: Z
  | [] => rfl
  | x :: X => by simp [set_at u v Z X]
theorem get_at {d : Array α} {X Z : List α} {u : α} (h : d.toList = X ++ u :: Z) : d[X.length]! = u := by
  have hs : X.length < d.size := by rw [← Array.length_toList, h]; simp
  rw [getElem!_pos d _ hs, ← Array.getElem_toList]
  simp [h]
theorem swp_list {d : Array α} {X M Y : List α} {u v : α} (h : d.toList = X ++ u :: (M ++ v :: Y)) (j : Nat) (hj : j = X.length + 1 + M.length) : (swp d X.length j).toList = X ++ v :: (M ++ u :: Y) := by
  have h2 : d.toList = (X ++ u :: M) ++ v :: Y := by rw [h]; simp
  have g1 := get_at h
  have g2 := get_at h2
  have e : (X ++ u :: M).length = j := by simp; omega
  rw [e] at g2
  have e2 : (X ++ v :: M).length = j := by simp; omega
  unfold swp
  rw [Array.toList_setIfInBounds, Array.toList_setIfInBounds, g1, g2, h, set_at, ← e2, show X ++ v :: (M ++ v :: Y) = (X ++ v :: M) ++ v :: Y by simp, set_at]
  simp
theorem swp_list' {d : Array α} {X M Y : List α} {u v : α} (h : d.toList = X ++ u :: (M ++ v :: Y)) (j : Nat) (hj : j = X.length + 1 + M.length) : (swp d j X.length).toList = X ++ v :: (M ++ u :: Y) := by
  have h2 : d.toList = (X ++ u :: M) ++ v :: Y := by rw [h]; simp
  have g1 := get_at h
  have g2 := get_at h2
  have e : (X ++ u :: M).length = j := by simp; omega
  rw [e] at g2
  unfold swp
  rw [Array.toList_setIfInBounds, Array.toList_setIfInBounds, g1, g2, h2, ← e, set_at, show X ++ u :: M ++ u :: Y = X ++ u :: (M ++ u :: Y) by simp, set_at]
theorem swR_list : ∀ (U V X Q Y : List α) (d : Array α) (a b n : Nat), U.length = n → V.length = n → a = X.length → b = X.length + n + Q.length → d.toList = X ++ (U ++ (Q ++ (V ++ Y))) → (swR a b n d).toList = X ++ (V ++ (Q ++ (U ++ Y)))
  | [], [], X, Q, Y, d, a, b, 0, _, _, _, _, h => by simpa [swR] using h
  | u :: U, v :: V, X, Q, Y, d, a, b, n + 1, hu, hv, ha, hb, h => by
    have h1 := swp_list (d := d) (X := X) (M := U ++ Q) (Y := V ++ Y) (u := u) (v := v) (by rw [h]; simp) b (by simp at hu ⊢; omega)
    subst ha
    have ih := swR_list U V (X ++ [v]) (Q ++ [u]) Y (swp d X.length b) (X.length + 1) (b + 1) n (by simpa using hu) (by simpa using hv) (by simp) (by simp at hu ⊢; omega) (by rw [h1]; simp)
    show (swR (X.length + 1) (b + 1) n (swp d X.length b)).toList = _
    rw [ih]
    simp
  | [], v :: V, _, _, _, _, _, _, _, hu, hv, _, _, _ => by simp at hu hv; omega
  | u :: U, [], _, _, _, _, _, _, _, hu, hv, _, _, _ => by simp at hu hv; omega
  | [], [], _, _, _, _, _, _, n + 1, hu, _, _, _, _ => by simp at hu
  | u :: U, _ :: _, _, _, _, _, _, _, 0, hu, _, _, _, _ => by simp at hu
omit [Inhabited α] in
theorem split_len {l : List α} {n : Nat} (h : n ≤ l.length) : ∃ a b, l = a ++ b ∧ a.length = n := ⟨l.take n, l.drop n, (List.take_append_drop n l).symm, by simp; omega⟩
theorem rot_list (m : Nat) : ∀ (f i j : Nat) (U V X Y : List α) (d : Array α), i + j ≤ f → 0 < i → 0 < j → U.length = i → V.length = j → X.length + i = m → d.toList = X ++ (U ++ (V ++ Y)) → (rot m f i j d).toList = X ++ (V ++ (U ++ Y))
  | 0, i, j, U, V, X, Y, d, hf, hi, hj, hu, hv, hx, h => by omega
  | f + 1, i, j, U, V, X, Y, d, hf, hi, hj, hu, hv, hx, h => by
    unfold rot
    split
    · rename_i e
      subst e
      exact swR_list U V X [] Y d (m - i) m i hu hv (by omega) (by simp; omega) (by simpa using h)
    · rename_i hne
      split
      · rename_i hgt
        obtain ⟨U1, U2, rfl, hU1⟩ := split_len (l := U) (n := j) (by omega)
        simp only [List.length_append] at hu
        have h1 := swR_list U1 V X U2 Y d (m - i) m j hU1 hv (by omega) (by omega) (by rw [h]; simp)
        have ih := rot_list m f (i - j) j U2 U1 (X ++ V) Y _ (by omega) (by omega) hj (by omega) hU1 (by simp; omega) (by rw [h1]; simp)
        rw [ih]
        simp
      · rename_i hle
        obtain ⟨V1, V2, rfl, hV1⟩ := split_len (l := V) (n := j - i) (by omega)
        simp only [List.length_append] at hv
        have h1 := swR_list U V2 X V1 Y d (m - i) (m + j - i) i hu (by omega) (by omega) (by omega) (by rw [h]; simp)
        have ih := rot_list m f i (j - i) V2 V1 X (U ++ Y) _ (by omega) hi (by omega) (by omega) hV1 hx (by rw [h1])
        rw [ih]
        simp
theorem bs_spec (p : Nat → Bool) : ∀ (f i j : Nat), i ≤ j → j - i < f → i ≤ bs p f i j ∧ bs p f i j ≤ j ∧ (bs p f i j = i ∨ p (bs p f i j - 1) = true) ∧ (bs p f i j = j ∨ p (bs p f i j) = false)
  | 0, i, j, hij, hf => by omega
  | f + 1, i, j, hij, hf => by
    unfold bs
    split
    · rename_i hlt
      cases hp : p ((i + j) / 2) with
      | true =>
        rw [if_pos rfl]
        obtain ⟨h1, h2, h3, h4⟩ := bs_spec p f ((i + j) / 2 + 1) j (by omega) (by omega)
        refine ⟨by omega, h2, ?_, h4⟩
        rcases h3 with h3 | h3
        · exact .inr (by rw [h3]; simpa using hp)
        · exact .inr h3
      | false =>
        rw [if_neg (by simp)]
        obtain ⟨h1, h2, h3, h4⟩ := bs_spec p f i ((i + j) / 2) (by omega) (by omega)
        refine ⟨h1, by omega, h3, ?_⟩
        rcases h4 with h4 | h4
        · exact .inr (by rw [h4]; exact hp)
        · exact .inr h4
    · exact ⟨Nat.le_refl _, hij, .inl rfl, .inl (by omega)⟩
theorem mvUp_list : ∀ (V X Y : List α) (x : α) (d : Array α) (n k : Nat), V.length = n → X.length = k → d.toList = X ++ x :: (V ++ Y) → (mvUp n k d).toList = X ++ (V ++ x :: Y)
  | [], X, Y, x, d, 0, k, _, _, h => by simpa [mvUp] using h
  | v :: V, X, Y, x, d, n + 1, k, hn, hk, h => by
    subst hk
    have h1 := swp_list (d := d) (X := X) (M := []) (Y := V ++ Y) (u := x) (v := v) (by rw [h]; simp) (X.length + 1) (by simp)
    have ih := mvUp_list V (X ++ [v]) Y x (swp d X.length (X.length + 1)) n (X.length + 1) (by simpa using hn) (by simp) (by rw [h1]; simp)
    show (mvUp n (X.length + 1) _).toList = _
    rw [ih]
    simp
  | [], _, _, _, _, n + 1, _, hn, _, _ => by simp at hn
  | _ :: _, _, _, _, _, 0, _, hn, _, _ => by simp at hn
theorem mvDn_list : ∀ (n : Nat) (V X Y : List α) (y : α) (d : Array α) (k : Nat), V.length = n → X.length + n = k → d.toList = X ++ (V ++ y :: Y) → (mvDn n k d).toList = X ++ y :: (V ++ Y)
  | 0, V, X, Y, y, d, k, hn, hk, h => by
    obtain rfl := List.length_eq_zero_iff.1 hn
    simpa [mvDn] using h
  | n + 1, V, X, Y, y, d, k, hn, hk, h => by
    obtain ⟨V1, V2, rfl, hV1⟩ := split_len (l := V) (n := n) (by omega)
    obtain ⟨v, rfl⟩ : ∃ v, V2 = [v] := List.length_eq_one_iff.1 (by simp at hn; omega)
    have h1 := swp_list' (d := d) (X := X ++ V1) (M := []) (Y := Y) (u := v) (v := y) (by rw [h]; simp) k (by simp; omega)
    rw [show (X ++ V1).length = k - 1 by simp; omega] at h1
    have ih := mvDn_list n V1 X (v :: Y) y (swp d k (k - 1)) (k - 1) hV1 (by omega) (by rw [h1]; simp)
    show (mvDn n (k - 1) _).toList = _
    rw [ih]
    simp
section
variable {lt : α → α → Bool}
/-- not behind -/
def leq (lt : α → α → Bool) (x y : α) : Bool := !lt y x
def Sd (lt : α → α → Bool) (l : List α) : Prop := l.Pairwise (fun x y => leq lt x y = true)
omit [Inhabited α] in
theorem mrg_mem {le : α → α → Bool} {z : α} : ∀ (n : Nat) (u v : List α), u.length + v.length ≤ n → z ∈ mrg le u v → z ∈ u ∨ z ∈ v
  | _, [], v, _, h => by rw [mrg_nil_left] at h; exact .inr h
  | _, x :: u, [], _, h => by rw [mrg_nil_right] at h; exact .inl h
  | 0, x :: u, y :: v, hn, _ => by simp at hn
  | n + 1, x :: u, y :: v, hn, h => by
    simp only [List.length_cons] at hn
    rw [mrg_cons] at h
    split at h
    · rcases List.mem_cons.1 h with rfl | h
      · exact .inl (by simp)
      · rcases mrg_mem n u (y :: v) (by simp only [List.length_cons]; omega) h with h | h
        · exact .inl (by simp [h])
        · exact .inr h
    · rcases List.mem_cons.1 h with rfl | h
      · exact .inr (by simp)
      · rcases mrg_mem n (x :: u) v (by simp only [List.length_cons]; omega) h with h | h
        · exact .inl h
        · exact .inr (by simp [h])
omit [Inhabited α] in
theorem mrg_length {le : α → α → Bool} : ∀ (n : Nat) (u v : List α), u.length + v.length ≤ n → (mrg le u v).length = u.length + v.length
  | _, [], v, _ => by rw [mrg_nil_left]; simp
  | _, x :: u, [], _ => by rw [mrg_nil_right]; simp
  | 0, x :: u, y :: v, hn => by simp at hn
  | n + 1, x :: u, y :: v, hn => by
    simp only [List.length_cons] at hn
    rw [mrg_cons]
    split
    · rw [List.length_cons, mrg_length n u (y :: v) (by simp only [List.length_cons]; omega)]; simp only [List.length_cons]; omega
    · rw [List.length_cons, mrg_length n (x :: u) v (by simp only [List.length_cons]; omega)]; simp only [List.length_cons]; omega
omit [Inhabited α] in
theorem stab_length {le : α → α → Bool} : ∀ l : List α, (stab le l).length = l.length
  | [] => rfl
  | x :: t => by
    show (mrg le [x] (stab le t)).length = _
    rw [mrg_length _ _ _ (Nat.le_refl _), stab_length t]
    simp; omega
variable (tot : ∀ x y, leq lt x y = false → leq lt y x = true) (tr : ∀ x y z, leq lt x y = true → leq lt y z = true → leq lt x z = true)
include tot tr
omit [Inhabited α] in
theorem mrg_sorted : ∀ (n : Nat) (u v : List α), u.length + v.length ≤ n → Sd lt u → Sd lt v → Sd lt (mrg (leq lt) u v)
  | _, [], v, _, _, h => by rw [mrg_nil_left]; exact h
  | _, x :: u, [], _, h, _ => by rw [mrg_nil_right]; exact h
  | 0, x :: u, y :: v, hn, _, _ => by simp at hn
  | n + 1, x :: u, y :: v, hn, hu, hv => by
    simp only [List.length_cons] at hn
    have hu' := List.pairwise_cons.1 hu
    have hv' := List.pairwise_cons.1 hv
    rw [mrg_cons]
    split
    · rename_i hxy
      refine List.pairwise_cons.2 ⟨fun z hz => ?_, mrg_sorted n u (y :: v) (by simp only [List.length_cons]; omega) hu'.2 hv⟩
      rcases mrg_mem _ _ _ (Nat.le_refl _) hz with h | h
      · exact hu'.1 z h
      · rcases List.mem_cons.1 h with rfl | h
        · exact hxy
        · exact tr _ _ _ hxy (hv'.1 z h)
    · rename_i hxy
      have hyx := tot x y (by simpa using hxy)
      refine List.pairwise_cons.2 ⟨fun z hz => ?_, mrg_sorted n (x :: u) v (by simp only [List.length_cons]; omega) hu hv'.2⟩
      rcases mrg_mem _ _ _ (Nat.le_refl _) hz with h | h
      · rcases List.mem_cons.1 h with rfl | h
        · exact hyx
        · exact tr _ _ _ hyx (hu'.1 z h)
      · exact hv'.1 z h
omit [Inhabited α] in
theorem stab_sorted : ∀ l : List α, Sd lt (stab (leq lt) l)
  | [] => List.Pairwise.nil
  | x :: t => mrg_sorted tot tr _ _ _ (Nat.le_refl _) (List.pairwise_singleton _ _) (stab_sorted t)
omit tot [Inhabited α] in
theorem sd_last {s : List α} {z x : α} (hs : Sd lt (s ++ [z])) (h : leq lt z x = true) : ∀ y ∈ s ++ [z], leq lt y x = true := fun y hy => by
  rcases List.mem_append.1 hy with hy | hy
  · exact tr _ _ _ ((List.pairwise_append.1 hs).2.2 y hy z (by simp)) h
  · rw [List.mem_singleton.1 hy]; exact h
omit tot in
theorem insInner_list : ∀ (n : Nat) (s X Y : List α) (x : α) (d : Array α) (a j : Nat), s.length = n → X.length = a → j = a + n → Sd lt s → d.toList = X ++ (s ++ x :: Y) → (insInner lt a j d).toList = X ++ (mrg (leq lt) s [x] ++ Y)
  | 0, s, X, Y, x, d, a, j, hn, ha, hj, hs, h => by
    obtain rfl := List.length_eq_zero_iff.1 hn
    rw [mrg_nil_left]
    have e : insInner lt a j d = d := by
      rw [hj]
      cases a with
      | zero => rfl
      | succ a =>
        show (if a + 0 + 1 > a + 1 && _ then _ else d) = d
        rw [if_neg (by simp)]
    rw [e, h]
    rfl
  | n + 1, s, X, Y, x, d, a, j, hn, ha, hj, hs, h => by
    obtain ⟨s', s2, rfl, hs'⟩ := split_len (l := s) (n := n) (by omega)
    obtain ⟨z, rfl⟩ : ∃ z, s2 = [z] := List.length_eq_one_iff.1 (by simp at hn; omega)
    have g1 := get_at (d := d) (X := X ++ s') (Z := x :: Y) (u := z) (by rw [h]; simp)
    have g2 := get_at (d := d) (X := X ++ s' ++ [z]) (Z := Y) (u := x) (by rw [h]; simp)
    have e1 : (X ++ s').length = a + n := by simp; omega
    have e2 : (X ++ s' ++ [z]).length = a + n + 1 := by simp; omega
    rw [e1] at g1
    rw [e2] at g2
    subst hj
    show (if a + n + 1 > a && lt d[a + n + 1]! d[a + n]! then insInner lt a (a + n) (swp d (a + n + 1) (a + n)) else d).toList = _
    rw [g1, g2, decide_eq_true (by omega), Bool.true_and]
    cases hlt : lt x z with
    | true =>
      have h1 := swp_list' (d := d) (X := X ++ s') (M := []) (Y := Y) (u := z) (v := x) (by rw [h]; simp) (a + n + 1) (by simp; omega)
      rw [e1] at h1
      rw [if_pos rfl, insInner_list n s' X (z :: Y) x _ a (a + n) hs' ha rfl (List.pairwise_append.1 hs).1 (by rw [h1]; simp)]
      have := mrg_split (le := leq lt) _ s' [z] [x] [] (Nat.le_refl _) (fun _ _ _ h => by cases h) (fun y hy z' hz' => by
        rw [List.mem_singleton.1 hy, List.mem_singleton.1 hz']; unfold leq; rw [hlt]; rfl)
      rw [List.append_nil, mrg_nil_right] at this
      rw [this]
      simp
    | false =>
      rw [if_neg (by simp), h]
      have := mrg_split (le := leq lt) _ (s' ++ [z]) [] [] [x] (Nat.le_refl _) (fun y hy x' hx' => by
        rw [List.mem_singleton.1 hx']; exact sd_last tr hs (by unfold leq; rw [hlt]; rfl) y hy) (fun _ h => by cases h)
      rw [List.append_nil, List.nil_append, mrg_nil_left, mrg_nil_right] at this
      rw [this]
      simp
omit [Inhabited α] in
theorem stab_snoc (l : List α) (x : α) : stab (leq lt) (l ++ [x]) = mrg (leq lt) (stab (leq lt) l) [x] := by
  rw [stab_append tot tr]
  rw [show stab (leq lt) [x] = mrg (leq lt) [x] [] from rfl, mrg_nil_right]
theorem insOuter_list : ∀ (n : Nat) (done rest X Y : List α) (d : Array α) (a b i : Nat), rest.length = n → X.length = a → i = a + done.length → b = i + n → d.toList = X ++ (stab (leq lt) done ++ (rest ++ Y)) → (insOuter lt a b i d).toList = X ++ (stab (leq lt) (done ++ rest) ++ Y)
  | 0, done, rest, X, Y, d, a, b, i, hn, ha, hi, hb, h => by
    obtain rfl := List.length_eq_zero_iff.1 hn
    unfold insOuter
    rw [if_neg (by omega), h, List.append_nil, List.nil_append]
  | n + 1, done, [], X, Y, d, a, b, i, hn, ha, hi, hb, h => by simp at hn
  | n + 1, done, x :: rest, X, Y, d, a, b, i, hn, ha, hi, hb, h => by
    unfold insOuter
    rw [if_pos (by omega)]
    have h1 := insInner_list tr done.length (stab (leq lt) done) X (rest ++ Y) x d a i (stab_length _) ha hi (stab_sorted tot tr _) (by rw [h]; simp)
    rw [← stab_snoc tot tr] at h1
    have ih := insOuter_list n (done ++ [x]) rest X Y _ a b (i + 1) (by simpa using hn) ha (by simp; omega) (by omega) h1
    rw [ih]
    simp
theorem insertionSort_list (mid X Y : List α) (d : Array α) (a b : Nat) (ha : X.length = a) (hb : b = a + mid.length) (h : d.toList = X ++ (mid ++ Y)) : (insertionSort lt d a b).toList = X ++ (stab (leq lt) mid ++ Y) := by
  unfold insertionSort
  cases mid with
  | nil =>
    unfold insOuter
    rw [if_neg (by simp at hb; omega), h]
    rfl
  | cons x t =>
    have := insOuter_list tot tr t.length [x] t X Y d a b (a + 1) rfl ha (by simp) (by simp at hb; omega) (by
      rw [h]
      show _ = X ++ (mrg (leq lt) [x] [] ++ _)
      rw [mrg_nil_right]
      simp)
    rw [this]
    rfl
omit tot [Inhabited α] in
theorem all_false {V : List α} {x z : α} (hs : Sd lt (V ++ [z])) (h : leq lt x z = false) : ∀ y ∈ V ++ [z], leq lt x y = false := fun y hy => by
  rcases List.mem_append.1 hy with hy | hy
  · cases hxy : leq lt x y with
    | false => rfl
    | true =>
      have := tr _ _ _ hxy ((List.pairwise_append.1 hs).2.2 y hy z (by simp))
      rw [h] at this; cases this
  · rw [List.mem_singleton.1 hy]; exact h
omit tot [Inhabited α] in
omit tot [Inhabited α] in
theorem all_false2 {U : List α} {x z : α} (hs : Sd lt (z :: U)) (h : leq lt z x = false) : ∀ y ∈ z :: U, leq lt y x = false := fun y hy => by
  rcases List.mem_cons.1 hy with rfl | hy
  · exact h
  · cases hyx : leq lt y x with
    | false => rfl
    | true =>
      have := tr _ _ _ ((List.pairwise_cons.1 hs).1 y hy) hyx
      rw [h] at this; cases this
omit [Inhabited α] tot tr in
theorem snoc_of {V : List α} (h : 0 < V.length) : ∃ V' z, V = V' ++ [z] := ⟨V.dropLast, V.getLast (by rintro rfl; simp at h), (List.dropLast_concat_getLast _).symm⟩
omit [Inhabited α] tot tr in
theorem cons_of {V : List α} (h : 0 < V.length) : ∃ z V', V = z :: V' := by
  cases V with
  | nil => simp at h
  | cons z V' => exact ⟨z, V', rfl⟩
omit tot in
theorem one_left (x : α) (v X Y : List α) (d : Array α) (a m b : Nat) (ha : X.length = a) (hm : m = a + 1) (hb : b = m + v.length) (hv : Sd lt v) (h : d.toList = X ++ (x :: (v ++ Y))) :
    (mvUp (bs (fun h => lt d[h]! d[a]!) (b - m + 1) m b - 1 - a) a d).toList = X ++ (mrg (leq lt) [x] v ++ Y) := by
  obtain ⟨h1, h2, h3, h4⟩ := bs_spec (fun h => lt d[h]! d[a]!) (b - m + 1) m b (by omega) (by omega)
  generalize bs (fun h => lt d[h]! d[a]!) (b - m + 1) m b = s at *
  obtain ⟨V1, V2, rfl, hV1⟩ := split_len (l := v) (n := s - m) (by omega)
  have ga := get_at (d := d) (X := X) (Z := V1 ++ V2 ++ Y) (u := x) h
  rw [ha] at ga
  simp only [ga] at h3 h4
  have e := mvUp_list V1 X (V2 ++ Y) x d (s - 1 - a) a (by omega) ha (by rw [h]; simp)
  rw [e]
  have c1 : ∀ y ∈ V1, leq lt x y = false := by
    rcases Nat.eq_zero_or_pos V1.length with h0 | h0
    · rw [List.length_eq_zero_iff.1 h0]; intro y hy; cases hy
    · obtain ⟨V', z, rfl⟩ := snoc_of h0
      rcases h3 with h3 | h3
      · omega
      · have g := get_at (d := d) (X := X ++ [x] ++ V') (Z := V2 ++ Y) (u := z) (by rw [h]; simp)
        rw [show (X ++ [x] ++ V').length = s - 1 by simp at hV1 ⊢; omega] at g
        rw [g] at h3
        exact all_false tr (List.pairwise_append.1 hv).1 (by unfold leq; rw [h3]; rfl)
  have c2 : mrg (leq lt) [x] V2 = x :: V2 := by
    rcases Nat.eq_zero_or_pos V2.length with h0 | h0
    · rw [List.length_eq_zero_iff.1 h0, mrg_nil_right]
    · obtain ⟨z, V', rfl⟩ := cons_of h0
      rcases h4 with h4 | h4
      · simp at hb; omega
      · have g := get_at (d := d) (X := X ++ [x] ++ V1) (Z := V' ++ Y) (u := z) (by rw [h]; simp)
        rw [show (X ++ [x] ++ V1).length = s by simp; omega] at g
        rw [g] at h4
        rw [mrg_cons, if_pos (by unfold leq; rw [h4]; rfl), mrg_nil_left]
  have := mrg_split (le := leq lt) _ [] [x] V1 V2 (Nat.le_refl _) (fun _ h => by cases h) (fun y hy z hz => by rw [List.mem_singleton.1 hz]; exact c1 y hy)
  rw [List.nil_append, mrg_nil_left, c2] at this
  rw [this]
  simp
omit tot in
theorem one_right (y : α) (u X Y : List α) (d : Array α) (a m b : Nat) (ha : X.length = a) (hm : m = a + u.length) (hu : Sd lt u) (h : d.toList = X ++ (u ++ y :: Y)) :
    (mvDn (m - bs (fun h => !lt d[m]! d[h]!) (m - a + 1) a m) m d).toList = X ++ (mrg (leq lt) u [y] ++ Y) := by
  obtain ⟨h1, h2, h3, h4⟩ := bs_spec (fun h => !lt d[m]! d[h]!) (m - a + 1) a m (by omega) (by omega)
  generalize bs (fun h => !lt d[m]! d[h]!) (m - a + 1) a m = s at *
  obtain ⟨U1, U2, rfl, hU1⟩ := split_len (l := u) (n := s - a) (by omega)
  have ga := get_at (d := d) (X := X ++ U1 ++ U2) (Z := Y) (u := y) (by rw [h]; simp)
  rw [show (X ++ U1 ++ U2).length = m by simp at hm ⊢; omega] at ga
  simp only [ga] at h3 h4
  have e := mvDn_list (m - s) U2 (X ++ U1) Y y d m (by simp at hm; omega) (by simp; omega) (by rw [h]; simp)
  rw [e]
  have c1 : ∀ x ∈ U1, leq lt x y = true := by
    rcases Nat.eq_zero_or_pos U1.length with h0 | h0
    · rw [List.length_eq_zero_iff.1 h0]; intro y hy; cases hy
    · obtain ⟨V', z, rfl⟩ := snoc_of h0
      rcases h3 with h3 | h3
      · omega
      · have g := get_at (d := d) (X := X ++ V') (Z := U2 ++ y :: Y) (u := z) (by rw [h]; simp)
        rw [show (X ++ V').length = s - 1 by simp at hU1 ⊢; omega] at g
        rw [g] at h3
        exact sd_last tr (List.pairwise_append.1 hu).1 h3
  have c2 : mrg (leq lt) U2 [y] = y :: U2 := by
    rcases Nat.eq_zero_or_pos U2.length with h0 | h0
    · rw [List.length_eq_zero_iff.1 h0, mrg_nil_left]
    · obtain ⟨z, V', rfl⟩ := cons_of h0
      rcases h4 with h4 | h4
      · simp at hm; omega
      · have g := get_at (d := d) (X := X ++ U1) (Z := V' ++ y :: Y) (u := z) (by rw [h]; simp)
        rw [show (X ++ U1).length = s by simp; omega] at g
        rw [g] at h4
        rw [mrg_cons, if_neg (by show ¬ (!lt y z) = true; rw [h4]; simp), mrg_nil_right]
  have := mrg_split (le := leq lt) _ U1 U2 [] [y] (Nat.le_refl _) (fun x hx z hz => by rw [List.mem_singleton.1 hz]; exact c1 x hx) (fun _ h => by cases h)
  rw [List.nil_append, mrg_nil_right, c2] at this
  rw [this]
  simp
theorem symM_list : ∀ (f a m b : Nat) (u v X Y : List α) (d : Array α), b - a ≤ f → X.length = a → 0 < u.length → 0 < v.length → m = a + u.length → b = m + v.length → Sd lt u → Sd lt v → d.toList = X ++ (u ++ (v ++ Y)) →
    (symM lt f a m b d).toList = X ++ (mrg (leq lt) u v ++ Y)
  | 0, a, m, b, u, v, X, Y, d, hf, ha, hu0, hv0, hm, hb, hu, hv, h => by omega
  | f + 1, a, m, b, u, v, X, Y, d, hf, ha, hu0, hv0, hm, hb, hu, hv, h => by
    unfold symM
    split
    · rename_i e1
      obtain ⟨x, rfl⟩ : ∃ x, u = [x] := List.length_eq_one_iff.1 (by omega)
      exact one_left tr x v X Y d a m b ha (by simpa using hm) hb hv (by rw [h]; rfl)
    · rename_i e1
      split
      · rename_i e2
        obtain ⟨y, rfl⟩ : ∃ y, v = [y] := List.length_eq_one_iff.1 (by omega)
        exact one_right tr y u X Y d a m b ha hm hu (by rw [h]; rfl)
      · rename_i e2
        simp only
        generalize hmid : (a + b) / 2 = mid
        obtain ⟨h1, h2, h3, h4⟩ := bs_spec (fun c => !lt d[mid + m - 1 - c]! d[c]!) ((if m > mid then mid else m) - (if m > mid then mid + m - b else a) + 1) (if m > mid then mid + m - b else a) (if m > mid then mid else m) (by split <;> omega) (by omega)
        generalize bs (fun c => !lt d[mid + m - 1 - c]! d[c]!) ((if m > mid then mid else m) - (if m > mid then mid + m - b else a) + 1) (if m > mid then mid + m - b else a) (if m > mid then mid else m) = st at *
        have q1 : a ≤ st := by split at h1 <;> omega
        have q2 : st ≤ m ∧ st ≤ mid := by split at h2 <;> omega
        have q3 : mid + m - st ≤ b ∧ m ≤ mid + m - st := by split at h1 <;> omega
        obtain ⟨U1, U2, rfl, hU1⟩ := split_len (l := u) (n := st - a) (by omega)
        obtain ⟨V1, V2, rfl, hV1⟩ := split_len (l := v) (n := mid - st) (by omega)
        simp only [List.length_append] at hm hb hu0 hv0
        have hlo : U1 = [] ∨ V2 = [] ∨ ∃ U' z w V', U1 = U' ++ [z] ∧ V2 = w :: V' ∧ leq lt z w = true := by
          rcases Nat.eq_zero_or_pos U1.length with k0 | k0
          · exact .inl (List.length_eq_zero_iff.1 k0)
          · rcases Nat.eq_zero_or_pos V2.length with k1 | k1
            · exact .inr (.inl (List.length_eq_zero_iff.1 k1))
            · obtain ⟨U', z, rfl⟩ := snoc_of k0
              obtain ⟨w, V', rfl⟩ := cons_of k1
              refine .inr (.inr ⟨U', z, w, V', rfl, rfl, ?_⟩)
              simp only [List.length_append, List.length_cons, List.length_nil] at hm hb hU1
              rcases h3 with h3 | h3
              · split at h3 <;> omega
              · have g1 := get_at (d := d) (X := X ++ U') (Z := U2 ++ (V1 ++ w :: V' ++ Y)) (u := z) (by rw [h]; simp)
                have g2 := get_at (d := d) (X := X ++ (U' ++ [z]) ++ U2 ++ V1) (Z := V' ++ Y) (u := w) (by rw [h]; simp)
                rw [show (X ++ U').length = st - 1 by simp; omega] at g1
                rw [show (X ++ (U' ++ [z]) ++ U2 ++ V1).length = mid + m - 1 - (st - 1) by simp; omega] at g2
                rw [g1, g2] at h3
                exact h3
        have hhi : U2 = [] ∨ V1 = [] ∨ ∃ z U' V' w, U2 = z :: U' ∧ V1 = V' ++ [w] ∧ leq lt z w = false := by
          rcases Nat.eq_zero_or_pos U2.length with k0 | k0
          · exact .inl (List.length_eq_zero_iff.1 k0)
          · rcases Nat.eq_zero_or_pos V1.length with k1 | k1
            · exact .inr (.inl (List.length_eq_zero_iff.1 k1))
            · obtain ⟨z, U', rfl⟩ := cons_of k0
              obtain ⟨V', w, rfl⟩ := snoc_of k1
              refine .inr (.inr ⟨z, U', V', w, rfl, rfl, ?_⟩)
              simp only [List.length_append, List.length_cons, List.length_nil] at hm hb hV1
              rcases h4 with h4 | h4
              · split at h4 <;> omega
              · have g1 := get_at (d := d) (X := X ++ U1) (Z := U' ++ (V' ++ [w] ++ V2 ++ Y)) (u := z) (by rw [h]; simp)
                have g2 := get_at (d := d) (X := X ++ U1 ++ (z :: U') ++ V') (Z := V2 ++ Y) (u := w) (by rw [h]; simp)
                rw [show (X ++ U1).length = st by simp; omega] at g1
                rw [show (X ++ U1 ++ (z :: U') ++ V').length = mid + m - 1 - st by simp; omega] at g2
                rw [g1, g2] at h4
                exact h4
        have hu12 := List.pairwise_append.1 hu
        have hv12 := List.pairwise_append.1 hv
        have hsp := mrg_split (le := leq lt) _ U1 U2 V1 V2 (Nat.le_refl _) (fun x hx y hy => by
          rcases hlo with rfl | rfl | ⟨U', z, w, V', rfl, rfl, hz⟩
          · cases hx
          · cases hy
          · exact tr _ _ _ (sd_last tr hu12.1 hz x hx) (by
              rcases List.mem_cons.1 hy with rfl | hy
              · unfold leq; cases hlt : lt y y with
                | false => rfl
                | true => have := tot y y (by unfold leq; rw [hlt]; rfl); unfold leq at this; rw [hlt] at this; cases this
              · exact (List.pairwise_cons.1 hv12.2.1).1 y hy)) (fun y hy x hx => by
          rcases hhi with rfl | rfl | ⟨z, U', V', w, rfl, rfl, hz⟩
          · cases hx
          · cases hy
          · exact all_false tr hv12.1 (all_false2 tr hu12.2.1 hz x hx) y hy)
        rw [hsp]
        have d1 : (if st < m ∧ m < mid + m - st then rot m (mid + m - st - st + 1) (m - st) (mid + m - st - m) d else d).toList = X ++ (U1 ++ (V1 ++ (U2 ++ (V2 ++ Y)))) := by
          split
          · rename_i hc
            have := rot_list m (mid + m - st - st + 1) (m - st) (mid + m - st - m) U2 V1 (X ++ U1) (V2 ++ Y) d (by omega) (by omega) (by omega) (by omega) (by omega) (by simp; omega) (by rw [h]; simp)
            rw [this]
            simp
          · rename_i hc
            rw [h]
            rcases Nat.eq_zero_or_pos U2.length with k0 | k0
            · rw [List.length_eq_zero_iff.1 k0]; simp
            · have k1 : V1.length = 0 := by omega
              rw [List.length_eq_zero_iff.1 k1]; simp
        generalize (if st < m ∧ m < mid + m - st then rot m (mid + m - st - st + 1) (m - st) (mid + m - st - m) d else d) = D1 at d1 ⊢
        have d2 : (if a < st ∧ st < mid then symM lt f a st mid D1 else D1).toList = X ++ (mrg (leq lt) U1 V1 ++ (U2 ++ (V2 ++ Y))) := by
          split
          · rename_i hc
            exact symM_list f a st mid U1 V1 X (U2 ++ (V2 ++ Y)) D1 (by omega) ha (by omega) (by omega) (by omega) (by omega) hu12.1 hv12.1 d1
          · rename_i hc
            rw [d1]
            rcases Nat.eq_zero_or_pos U1.length with k0 | k0
            · rw [List.length_eq_zero_iff.1 k0, mrg_nil_left]; simp
            · have k1 : V1.length = 0 := by omega
              rw [List.length_eq_zero_iff.1 k1, mrg_nil_right]; simp
        generalize (if a < st ∧ st < mid then symM lt f a st mid D1 else D1) = D2 at d2 ⊢
        have hl1 := mrg_length (le := leq lt) _ U1 V1 (Nat.le_refl _)
        split
        · rename_i hc
          have := symM_list f mid (mid + m - st) b U2 V2 (X ++ mrg (leq lt) U1 V1) Y D2 (by omega) (by rw [List.length_append]; omega) (by omega) (by omega) (by omega) (by omega) hu12.2.1 hv12.2.1 (by rw [d2]; simp)
          rw [this]
          simp
        · rename_i hc
          rw [d2]
          rcases Nat.eq_zero_or_pos U2.length with k0 | k0
          · rw [List.length_eq_zero_iff.1 k0, mrg_nil_left]; simp
          · have k1 : V2.length = 0 := by omega
            rw [List.length_eq_zero_iff.1 k1, mrg_nil_right]; simp
omit tot tr [Inhabited α] in
/-- sorted piece by piece -/
def runs (lt : α → α → Bool) (k : Nat) : Nat → List α → List α
  | 0, l => l
  | f + 1, l => if k ≤ l.length then stab (leq lt) (l.take k) ++ runs lt k f (l.drop k) else stab (leq lt) l
omit tot tr [Inhabited α] in
theorem runs_short {k f : Nat} {l : List α} (hf : 0 < f) (h : l.length < k) : runs lt k f l = stab (leq lt) l := by
  obtain ⟨f, rfl⟩ : ∃ m, f = m + 1 := ⟨f - 1, by omega⟩
  unfold runs
  rw [if_neg (by omega)]
omit tot tr [Inhabited α] in
theorem runs_long {k f : Nat} {l : List α} (hf : 0 < f) (h : k ≤ l.length) : runs lt k f l = stab (leq lt) (l.take k) ++ runs lt k (f - 1) (l.drop k) := by
  obtain ⟨f, rfl⟩ : ∃ m, f = m + 1 := ⟨f - 1, by omega⟩
  conv => lhs; unfold runs
  rw [if_pos h]
  rfl
omit tot tr [Inhabited α] in
theorem runs_whole {k f : Nat} {l : List α} (hf : 1 < f) (hk : 0 < k) (h : l.length ≤ k) : runs lt k f l = stab (leq lt) l := by
  rcases Nat.lt_or_ge l.length k with hlt | hge
  · exact runs_short (by omega) hlt
  · rw [runs_long (by omega) hge, runs_short (by omega) (by simp; omega), List.take_of_length_le h, List.drop_eq_nil_of_le h]
    show _ ++ [] = _
    rw [List.append_nil]
omit tot tr [Inhabited α] in
theorem runs_fuel {k : Nat} (hk : 0 < k) : ∀ (f g : Nat) (l : List α), l.length < f → l.length < g → runs lt k f l = runs lt k g l
  | 0, g, l, hf, hg => by omega
  | f + 1, 0, l, hf, hg => by omega
  | f + 1, g + 1, l, hf, hg => by
    unfold runs
    split
    · rw [runs_fuel hk f g (l.drop k) (by rw [List.length_drop]; omega) (by rw [List.length_drop]; omega)]
    · rfl
theorem insBl_list (n : Nat) : ∀ (f a : Nat) (rest X : List α) (d : Array α), rest.length < f → X.length = a → n = a + rest.length → d.toList = X ++ rest → (insBl lt n f a (a + 20) d).toList = X ++ runs lt 20 f rest
  | 0, a, rest, X, d, hf, ha, hn, h => by omega
  | f + 1, a, rest, X, d, hf, ha, hn, h => by
    unfold insBl runs
    by_cases hb : 20 ≤ rest.length
    · rw [if_pos (by omega), if_pos hb]
      have h1 := insertionSort_list tot tr (rest.take 20) X (rest.drop 20) d a (a + 20) ha (by simp; omega) (by rw [h, List.take_append_drop])
      have hl := stab_length (le := leq lt) (rest.take 20)
      rw [List.length_take] at hl
      have ih := insBl_list n f (a + 20) (rest.drop 20) (X ++ stab (leq lt) (rest.take 20)) _ (by simp; omega) (by rw [List.length_append]; omega) (by simp; omega) (by rw [h1]; simp)
      rw [ih]
      simp
    · rw [if_neg (by omega), if_neg hb]
      have h1 := insertionSort_list tot tr rest X [] d a n ha hn (by rw [h]; simp)
      rw [h1]
      simp
theorem mrgBl_list (n k : Nat) (hk : 0 < k) : ∀ (f g a : Nat) (rest X : List α) (d : Array α), rest.length < f → rest.length + 1 < g → X.length = a → n = a + rest.length → d.toList = X ++ runs lt k g rest → (mrgBl lt n k f a (a + 2 * k) d).toList = X ++ runs lt (2 * k) f rest
  | 0, g, a, rest, X, d, hf, hg, ha, hn, h => by omega
  | f + 1, g, a, rest, X, d, hf, hg, ha, hn, h => by
    unfold mrgBl
    by_cases hb : 2 * k ≤ rest.length
    · rw [if_pos (by omega), runs_long (by omega) hb]
      rw [runs_long (by omega) (by omega), runs_long (l := rest.drop k) (by omega) (by rw [List.length_drop]; omega)] at h
      have l1 := stab_length (le := leq lt) (rest.take k)
      have l2 := stab_length (le := leq lt) ((rest.drop k).take k)
      rw [List.length_take] at l1 l2
      rw [List.length_drop] at l2
      have h1 := symM_list tot tr (a + 2 * k - a + 1) a (a + k) (a + 2 * k) (stab (leq lt) (rest.take k)) (stab (leq lt) ((rest.drop k).take k)) X (runs lt k (g - 1 - 1) ((rest.drop k).drop k)) d (by omega) ha (by omega) (by omega) (by omega) (by omega) (stab_sorted tot tr _) (stab_sorted tot tr _) h
      rw [← stab_append tot tr, show rest.take k ++ (rest.drop k).take k = rest.take (2 * k) by rw [show 2 * k = k + k by omega, List.take_add]] at h1
      have l3 := stab_length (le := leq lt) (rest.take (2 * k))
      rw [List.length_take] at l3
      rw [List.drop_drop, show k + k = 2 * k by omega] at h1
      have ih := mrgBl_list n k hk f (g - 1 - 1) (a + 2 * k) (rest.drop (2 * k)) (X ++ stab (leq lt) (rest.take (2 * k))) _ (by rw [List.length_drop]; omega) (by rw [List.length_drop]; omega) (by rw [List.length_append]; omega) (by rw [List.length_drop]; omega) (by rw [h1]; simp)
      rw [ih]
      simp
    · rw [if_neg (by omega), runs_short (k := 2 * k) (by omega) (by omega)]
      by_cases hc : k < rest.length
      · rw [if_pos (by omega)]
        rw [runs_long (by omega) (by omega), runs_short (l := rest.drop k) (by omega) (by rw [List.length_drop]; omega)] at h
        have l1 := stab_length (le := leq lt) (rest.take k)
        have l2 := stab_length (le := leq lt) (rest.drop k)
        rw [List.length_take] at l1
        rw [List.length_drop] at l2
        have h1 := symM_list tot tr (n - a + 1) a (a + k) n (stab (leq lt) (rest.take k)) (stab (leq lt) (rest.drop k)) X [] d (by omega) ha (by omega) (by omega) (by omega) (by omega) (stab_sorted tot tr _) (stab_sorted tot tr _) (by rw [h]; simp)
        rw [← stab_append tot tr, List.take_append_drop] at h1
        rw [h1]
        simp
      · rw [if_neg (by omega), h, runs_whole (by omega) hk (by omega)]
theorem stLp_list (l : List α) : ∀ (f k : Nat) (g : Nat) (d : Array α), l.length - k < f → 0 < k → l.length + 1 < g → d.toList = runs lt k g l → (stLp lt l.length f k d).toList = stab (leq lt) l
  | 0, k, g, d, hf, hk, hg, h => by omega
  | f + 1, k, g, d, hf, hk, hg, h => by
    unfold stLp
    by_cases hlt : k < l.length
    · rw [if_pos hlt]
      have h1 := mrgBl_list tot tr l.length k hk (l.length + 1) g 0 l [] d (by omega) hg rfl (by omega) (by rw [h]; rfl)
      rw [Nat.zero_add, List.nil_append] at h1
      -- the pieces' own fuel is one less than asked: told again
      have h2 : runs lt (2 * k) (l.length + 1) l = runs lt (k * 2) (l.length + 2) l := by
        rw [Nat.mul_comm]
        exact runs_fuel (by omega) _ _ l (by omega) (by omega)
      rw [h2] at h1
      exact stLp_list l f (k * 2) (l.length + 2) _ (by omega) (by omega) (by omega) h1
    · rw [if_neg hlt, h, runs_whole (by omega) hk (by omega)]
theorem stable_list (d : Array α) : (stable lt d.size d).toList = stab (leq lt) d.toList := by
  unfold stable
  have h1 := insBl_list tot tr d.size (d.size + 1) 0 d.toList [] d (by simp) rfl (by simp) rfl
  rw [Nat.zero_add, List.nil_append] at h1
  have e : d.size = d.toList.length := by simp
  rw [runs_fuel (by omega) (d.size + 1) (d.size + 2) d.toList (by omega) (by omega)] at h1
  have := stLp_list tot tr d.toList (d.toList.length + 1) 20 (d.size + 2) _ (by omega) (by omega) (by omega) h1
  rw [← e] at this
  exact this
end
end Go.Proofs.YtmjnipifpeehgaaDoor.St
