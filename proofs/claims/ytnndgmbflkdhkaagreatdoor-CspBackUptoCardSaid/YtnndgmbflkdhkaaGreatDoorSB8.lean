/- What csp.Parse reads is right, and its text is read as it: plain. -/
/- CspBack, plain. -/
import Derived.Test.YtnndgmbflkdhkaaGreatDoorSB5
import Derived.Test.YtnndgmbflkdhkaaGreatDoorSParse
import Derived.Test.YtnndgmbflkdhkaaGreatDoorSB7
import Derived.Test.YtnndgmbflkdhkaaGreatDoorSQCspBack
section
set_option linter.unusedSimpArgs false
set_option linter.unusedVariables false
namespace Go.Proofs.YtnndgmbflkdhkaaGreatDoor.Q
open Go.RowKit Go.Proofs.YtnndgmbflkdhkaaGreatDoorW.PrintWords Go.Proofs.YtnndgmbflkdhkaaGreatDoorW.PrintLast Go.Proofs.YtnndgmbflkdhkaaGreatDoorW.PrintMore Go.Proofs.YtnndgmbflkdhkaaGreatDoor.P1
/-- a word; a name -/
def gdV (x : List UInt8) : Prop := x ≠ [] ∧ x.length ≤ 4096 ∧ ∀ b ∈ x, bl b = false ∧ b ≠ 59
def gdN (x : List UInt8) : Prop := gdV x ∧ ∀ b ∈ x, lowC b = b
def gd (d : S35) : Prop := ∃ (x : List UInt8) (vs : List (List UInt8)), d = ⟨B x, vs.map B⟩ ∧ gdN x ∧ (∀ v ∈ vs, gdV v) ∧ vs.length ≤ 64
def Good (ds : List S35) : Prop := ds.length ≤ 64 ∧ (∀ d ∈ ds, gd d) ∧ ds.Pairwise (fun a b => a.f0.toList ≠ b.f0.toList)
theorem lowC_keeps (b : UInt8) : lowC (lowC b) = lowC b ∧ (bl b = false → bl (lowC b) = false) ∧ (b ≠ 59 → lowC b ≠ 59) := all_c (p := fun b => lowC (lowC b) = lowC b ∧ (bl b = false → bl (lowC b) = false) ∧ (b ≠ 59 → lowC b ≠ 59)) (by decide +kernel) b
theorem gdN_low {x : List UInt8} (h : gdV x) : gdN (low x) := by
  obtain ⟨h1, h2, h3⟩ := h
  refine ⟨⟨by simpa [low] using h1, by rw [low_length]; exact h2, fun b hb => ?_⟩, fun b hb => ?_⟩
  · obtain ⟨c, hc, rfl⟩ := List.mem_map.1 hb
    exact ⟨(lowC_keeps c).2.1 (h3 c hc).1, (lowC_keeps c).2.2 (h3 c hc).2⟩
  · obtain ⟨c, hc, rfl⟩ := List.mem_map.1 hb
    exact (lowC_keeps c).1
theorem low_id {x : List UInt8} (h : gdN x) : low x = x := by
  unfold low
  conv => rhs; rw [← List.map_id x]
  exact List.map_congr_left (fun b hb => h.2 b hb)
theorem piece_words {p y : List UInt8} {vs : List (List UInt8)} (hp : 59 ∉ p) (hl : p.length ≤ 4096) (h : wordsL p = y :: vs) : gdV y ∧ ∀ v ∈ vs, gdV v := by
  have key : ∀ v ∈ wordsL p, gdV v := fun v hv => by
    have := wordsL_mem p v hv
    refine ⟨this.1, Nat.le_trans ((wordsL_len p).2 v hv).2 hl, fun b hb => ⟨(this.2 b hb).1, fun e => hp ?_⟩⟩
    rw [← e]; exact (this.2 b hb).2
  rw [h] at key
  exact ⟨key y (by simp), fun v hv => key v (by simp [hv])⟩
theorem any_false {acc : List S35} {z : List UInt8} (h : acc.any (fun e => e.f0.toList == z) = false) : ∀ e ∈ acc, e.f0.toList ≠ z := by
  intro e he
  have := List.any_eq_false.1 h e he
  simpa using this
theorem good_snoc {acc : List S35} {d : S35} (h : Good acc) (hd : gd d) (hl : acc.length < 64) (hn : ∀ e ∈ acc, e.f0.toList ≠ d.f0.toList) : Good (acc ++ [d]) := by
  refine ⟨by simp; omega, fun e he => ?_, ?_⟩
  · rcases List.mem_append.1 he with he | he
    · exact h.2.1 e he
    · simp at he; subst he; exact hd
  · rw [List.pairwise_append]
    exact ⟨h.2.2, by simp, fun a ha b hb => by simp at hb; subst hb; exact hn a ha⟩
theorem parse_good : ∀ (ps : List (List UInt8)) (acc ds : List S35), (∀ p ∈ ps, 59 ∉ p ∧ p.length ≤ 4096) → Good acc → parseGo ps acc = some ds → Good ds
  | [], acc, ds, _, hg, h => by cases h; exact hg
  | p :: ps, acc, ds, hp, hg, h => by
    have hps : ∀ p ∈ ps, 59 ∉ p ∧ p.length ≤ 4096 := fun q hq => hp q (List.mem_cons_of_mem _ hq)
    unfold parseGo at h
    split at h
    · exact parse_good ps acc ds hps hg h
    · rename_i x vs hw
      obtain ⟨h1, h2⟩ := piece_words (hp p (by simp)).1 (hp p (by simp)).2 hw
      split at h
      · exact parse_good ps acc ds hps hg h
      · rename_i ha
        split at h
        · cases h
        · rename_i hm
          refine parse_good ps _ ds hps (good_snoc hg ⟨low x, vs, rfl, gdN_low h1, h2, by omega⟩ (by omega) ?_) h
          exact any_false (by simpa using ha)
theorem good_nil : Good [] := ⟨by simp, by simp, List.Pairwise.nil⟩
theorem parse_Good {s : List UInt8} (hs : s.length ≤ 4096) {ds : List S35} (h : parseGo (parts 59 s) [] = some ds) : Good ds :=
  parse_good _ _ _ (fun p hp => ⟨(parts_mem 59 s p hp).1, Nat.le_trans (parts_len 59 s p hp) hs⟩) good_nil h
theorem marks_not (b : UInt8) (h : bl b = false) (h2 : b ≠ 59) : ([9, 10, 12, 13, 32, 59] : List UInt8).contains b = false :=
  all_c (p := fun b => bl b = false → b ≠ 59 → ([9, 10, 12, 13, 32, 59] : List UInt8).contains b = false) (by decide +kernel) b h h2
theorem wordV_gd {x : List UInt8} (h : gdV x) : wordV (B x) = true := by
  unfold wordV
  rw [B_data, containsAny_false _ x (fun b hb => marks_not b (h.2.2 b hb).1 (h.2.2 b hb).2)]
  have := h.1
  cases x with
  | nil => exact absurd rfl this
  | cons a t => rfl
theorem dir_get {ds : List S35} {i : Nat} (h : i < ds.length) : rd_T35 ds (i : Int) = ds[i] := by
  unfold rd_T35
  simp [List.getD_eq_getElem?_getD, h]
theorem good_ok {ds : List S35} (h : Good ds) : ∀ n, n ≤ ds.length → okAt ds n = true
  | 0, _ => by unfold okAt; exact decide_eq_true h.1
  | n + 1, hn => by
    unfold okAt
    rw [good_ok h n (by omega), dir_get (by omega : n < ds.length)]
    obtain ⟨x, vs, hd, hx, hv, hl⟩ := h.2.1 _ (List.getElem_mem (by omega : n < ds.length))
    have hpw := h.2.2
    have hne : ∀ e ∈ ds.take n, e.f0.toList ≠ (ds[n]).f0.toList := by
      intro e he
      obtain ⟨j, hj, rfl⟩ := List.mem_iff_getElem.1 he
      rw [List.length_take] at hj
      rw [List.getElem_take]
      exact List.pairwise_iff_getElem.1 hpw j n (by omega) (by omega) (by omega)
    have h1 : (ds.take n).any (fun e => e.f0.toList == (ds[n]).f0.toList) = false := List.any_eq_false.2 (fun e he => by simpa using hne e he)
    have h2 : ((ds[n]).f1.any fun v => !wordV v) = false := by
      rw [hd]
      refine List.any_eq_false.2 (fun v hv' => ?_)
      obtain ⟨y, hy, rfl⟩ := List.mem_map.1 hv'
      rw [wordV_gd (hv y hy)]; decide
    unfold dirOk
    rw [h1, h2]
    have h3 : wordV (ds[n]).f0 = true := by rw [hd]; exact wordV_gd hx.1
    have h4 : lowEq (ds[n]).f0 = true := by rw [hd]; unfold lowEq; rw [B_data, low_id hx]; exact beq_self_eq_true _
    have h5 : (ds[n]).f1.length ≤ 64 := by rw [hd]; simpa using hl
    rw [h3, h4, decide_eq_true h5]; rfl
theorem good_small {ds : List S35} (h : Good ds) : ds.all dirSmall = true := by
  refine List.all_eq_true.2 (fun d hd => ?_)
  obtain ⟨x, vs, rfl, hx, hv, hl⟩ := h.2.1 d hd
  unfold dirSmall
  simp only [Bool.and_eq_true, decide_eq_true_eq, B_size, List.length_map]
  have h1 := hx.1.2.1
  refine ⟨⟨decide_eq_true (by omega), by omega⟩, List.all_eq_true.2 (fun v hv' => ?_)⟩
  obtain ⟨y, hy, rfl⟩ := List.mem_map.1 hv'
  rw [B_size]
  have h2 := (hv y hy).2.1
  exact decide_eq_true (by omega)
inductive All2 {α β : Type} (R : α → β → Prop) : List α → List β → Prop
  | nil : All2 R [] []
  | cons {a : α} {b : β} {l₁ : List α} {l₂ : List β} : R a b → All2 R l₁ l₂ → All2 R (a :: l₁) (b :: l₂)
theorem parse_pieces : ∀ (ds acc : List S35) (ps : List (List UInt8)), Good (acc ++ ds) → All2 (fun p d => ∃ (x : List UInt8) (vs : List (List UInt8)), d = (⟨B x, vs.map B⟩ : S35) ∧ gdN x ∧ vs.length ≤ 64 ∧ wordsL p = x :: vs) ps ds → parseGo ps acc = some (acc ++ ds)
  | [], acc, ps, hg, h => by cases h; rw [List.append_nil]; rfl
  | d :: ds, acc, _, hg, .cons (a := p) (l₁ := ps) ⟨x, vs, hd, hx, hl, hw⟩ h => by
    have hlen := hg.1
    rw [List.length_append, List.length_cons] at hlen
    have hno : acc.any (fun e => e.f0.toList == (B (low x)).toList) = false := by
      rw [low_id hx]
      refine List.any_eq_false.2 (fun e he => ?_)
      have := (List.pairwise_append.1 hg.2.2).2.2 e he d (by simp)
      rw [hd] at this
      simpa using this
    unfold parseGo
    rw [hw]
    simp only [hno, Bool.false_eq_true, if_false]
    rw [if_neg (by omega), low_id hx, ← hd]
    have e : acc ++ d :: ds = (acc ++ [d]) ++ ds := by simp
    rw [e]
    exact parse_pieces ds (acc ++ [d]) ps (by rw [← e]; exact hg) h
theorem line_words {d : S35} (h : gd d) : ∃ (x : List UInt8) (vs : List (List UInt8)), d = (⟨B x, vs.map B⟩ : S35) ∧ gdN x ∧ vs.length ≤ 64 ∧ wordsL (lineL d) = x :: vs ∧ 59 ∉ lineL d := by
  obtain ⟨x, vs, rfl, hx, hv, hl⟩ := h
  have e : lineL (⟨B x, vs.map B⟩ : S35) = Lib.join (x :: vs) [32] := by
    unfold lineL
    simp only [List.map_cons, B_data, List.map_map]
    congr 2
    conv => rhs; rw [← List.map_id vs]
    exact List.map_congr_left (fun v _ => B_data v)
  refine ⟨x, vs, rfl, hx, hl, ?_, ?_⟩
  · rw [e]
    exact words_join _ (fun z hz => by
      rcases List.mem_cons.1 hz with rfl | hz
      · exact ⟨hx.1.1, fun b hb => (hx.1.2.2 b hb).1⟩
      · exact ⟨(hv z hz).1, fun b hb => ((hv z hz).2.2 b hb).1⟩)
  · rw [e]
    have key : ∀ (zs : List (List UInt8)), (∀ z ∈ zs, 59 ∉ z) → 59 ∉ Lib.join zs [32] := by
      intro zs
      induction zs with
      | nil => intro _; simp [Lib.join]
      | cons a zs ih =>
        intro h
        cases zs with
        | nil => have : Lib.join [a] [32] = a := by simp [Lib.join]
                 rw [this]; exact h a (by simp)
        | cons b zs =>
          rw [join_two]
          simp only [List.mem_append, not_or]
          exact ⟨h a (by simp), by decide, ih (fun z hz => h z (List.mem_cons_of_mem _ hz))⟩
    refine key _ (fun z hz => ?_)
    rcases List.mem_cons.1 hz with rfl | hz
    · exact fun h => (hx.1.2.2 _ h).2 rfl
    · exact fun h => ((hv z hz).2.2 _ h).2 rfl
theorem forall2_map {α β : Type} {R : α → β → Prop} (f : β → α) : ∀ l : List β, (∀ x ∈ l, R (f x) x) → All2 R (l.map f) l
  | [], _ => .nil
  | x :: l, h => .cons (h x (by simp)) (forall2_map f l (fun y hy => h y (List.mem_cons_of_mem _ hy)))
theorem parse_text {ds : List S35} (hg : Good ds) : parseGo (parts 59 (textL ds)) [] = some ds := by
  cases ds with
  | nil =>
    have : parts 59 (textL []) = [[]] := by simp [textL, Lib.join, parts]
    rw [this]; exact parse_nil _ _ (by simp [wordsL, wordsGo])
  | cons d ds =>
    unfold textL
    rw [List.map_cons, parts_join 59 [32] (by decide) _ _ (fun z hz => by
      rw [← List.map_cons] at hz
      obtain ⟨e, he, rfl⟩ := List.mem_map.1 hz
      obtain ⟨_, _, _, _, _, _, h⟩ := line_words (hg.2.1 e he)
      exact h), List.map_map]
    refine parse_pieces (d :: ds) [] _ hg (.cons ?_ (forall2_map _ _ (fun e he => ?_)))
    · obtain ⟨x, vs, h1, h2, h3, h4, _⟩ := line_words (hg.2.1 d (by simp))
      exact ⟨x, vs, h1, h2, h3, h4⟩
    · obtain ⟨x, vs, h1, h2, h3, h4, _⟩ := line_words (hg.2.1 e (by simp [he]))
      exact ⟨x, vs, h1, h2, h3, (words_blank 32 (by decide) _).trans h4⟩
theorem parse_again {d : S35} {ds : List S35} (hg : Good (d :: ds)) (more : List UInt8) (hm : 59 ∉ more) : parseGo (parts 59 (textL (d :: ds) ++ [59, 32] ++ d.f0.data.toList ++ [32] ++ more)) [] = some (d :: ds) := by
  obtain ⟨x, vs, rfl, hx, hv, hl⟩ := hg.2.1 d (by simp)
  have e : textL ((⟨B x, vs.map B⟩ : S35) :: ds) ++ [59, 32] ++ (⟨B x, vs.map B⟩ : S35).f0.data.toList ++ [32] ++ more = textL (⟨B x, vs.map B⟩ :: ds) ++ 59 :: (32 :: (x ++ 32 :: more)) := by simp [B_data]
  have h59 : (59 : UInt8) ∉ (32 :: (x ++ 32 :: more) : List UInt8) := by
    simp only [List.mem_cons, List.mem_append, not_or]
    exact ⟨by decide, fun h => (hx.1.2.2 _ h).2 rfl, by decide, hm⟩
  have hw : wordsL (32 :: (x ++ 32 :: more)) = x :: wordsL more := by
    rw [words_blank 32 (by decide), words_app 32 (by decide), words_one x hx.1.1 (fun b hb => (hx.1.2.2 b hb).1)]; rfl
  rw [e, parts_app, parts_one 59 _ h59, parseGo_append, parse_text hg, Option.bind_some]
  refine parse_hit _ _ _ _ hw ?_
  rw [low_id hx, List.any_cons, beq_self_eq_true]; rfl
theorem parse_some {s : List UInt8} {rep : Bool} (hs : s.length ≤ 4096) {ds : List S35} (h : parseGo (parts 59 s) [] = some ds) : csp_Parse.f (B s) rep = some (ds, rep, 0) := by
  unfold csp_Parse.f
  rw [if_pos (by rw [B_size]; exact hs), B_data, h]
end Go.Proofs.YtnndgmbflkdhkaaGreatDoor.Q
end
section
set_option linter.unusedSimpArgs false
set_option linter.unusedVariables false
namespace Go.Proofs.YtnndgmbflkdhkaaGreatDoor.Q
open Go.RowKit Go.Proofs.YtnndgmbflkdhkaaGreatDoorW.PrintWords Go.Proofs.YtnndgmbflkdhkaaGreatDoorW.PrintLast Go.Proofs.YtnndgmbflkdhkaaGreatDoorW.PrintMore Go.Proofs.YtnndgmbflkdhkaaGreatDoor.P1
theorem good_same {ds : List S35} (h : Good ds) (r : Bool) (k : Nat) (hk : 200 < k) : bastionref14_Same.f k ds r ds r = some true :=
  same_refl ds r 64 (by omega) (by have := h.1; omega) (fun d hd => by obtain ⟨x, vs, rfl, _, _, hl⟩ := h.2.1 d hd; simpa using hl) k (by have := h.1; omega)
theorem back_l (ds : List S35) (rep : Bool) (m : List UInt8) (hg : Good ds) (ht : (textL ds).length ≤ 4096) (hm : m.length ≤ 1048576) : ∀ (n k i : Nat), m.length - i = n → n + 300 < k → i ≤ m.length → (∀ b ∈ m.take i, b ≠ 59) →
    bastionlaw14_CspBack.l0 k rep (B m) (B (textL ds)) (i : Int) ds rep = some true
  | 0, k, i, hn, hk, hi, hno => by
    obtain ⟨k, rfl⟩ : ∃ m, k = m + 1 := ⟨k - 1, by omega⟩
    simp only [bastionlaw14_CspBack.l0]
    rw [if_neg (by rw [B_size]; omega)]
    have hno' : 59 ∉ m := fun h => hno 59 (by rw [List.take_of_length_le (by omega)]; exact h) rfl
    cases ds with
    | nil => rw [if_pos (by simp)]
    | cons d ds =>
      have h0 : rd_T35 (d :: ds) 0 = d := by
        have := dir_get (ds := d :: ds) (i := 0) (by simp)
        simpa using this
      obtain ⟨x, vs, hd, hx, hv, hl⟩ := hg.2.1 d (by simp)
      have hf : d.f0 = B x := by rw [hd]
      have hxl := hx.1.2.1
      have e1 : (⟨#[59, 32]⟩ : ByteArray) = B [59, 32] := rfl
      have e2 : (⟨#[32]⟩ : ByteArray) = B [32] := rfl
      have ha := parse_again hg m hno'
      rw [hf, B_data] at ha
      rw [if_neg (by simp; omega), h0, hf, e1, e2]
      simp only [B_append, B_size]
      rw [if_pos (by omega), if_pos (by simp), if_pos (by simp; omega), if_pos (by simp; omega), if_pos (by simp; omega)]
      split
      · rfl
      · rename_i hlen
        rw [parse_some (by omega) ha]
        simp only [Option.bind_some, if_true]
        rw [good_same hg rep k (by omega)]; rfl
  | n + 1, k, i, hn, hk, hi, hno => by
    obtain ⟨k, rfl⟩ : ∃ m, k = m + 1 := ⟨k - 1, by omega⟩
    have hw : wrap64 ((i : Int) + 1) = ((i + 1 : Nat) : Int) := by rw [w64 (by omega) (by omega)]; omega
    have hlt : i < m.length := by omega
    simp only [bastionlaw14_CspBack.l0]
    rw [if_pos (by rw [B_size]; omega), if_pos (by omega), B_bt, Int.toNat_natCast, List.getD_eq_getElem?_getD, List.getElem?_eq_getElem hlt, Option.getD_some]
    split
    · rfl
    · rename_i hne
      split
      · rfl
      · rw [hw]
        refine back_l ds rep m hg ht hm n k (i + 1) (by omega) (by omega) (by omega) (fun b hb => ?_)
        rw [List.take_add_one, List.getElem?_eq_getElem hlt, Option.toList_some] at hb
        rcases List.mem_append.1 hb with hb | hb
        · exact hno b hb
        · simp at hb
          subst hb
          intro e
          rw [e] at hne
          exact hne rfl
theorem cspBack_any (s : List UInt8) (rep : Bool) (m : List UInt8) (hm : m.length ≤ 1048576) : bastionlaw14_CspBack.f 1049000 (B s) rep (B m) = some true := by
  unfold bastionlaw14_CspBack.f bastionlaw14_lives.f
  simp only [Option.bind_some, if_true]
  unfold csp_Parse.f
  rw [B_size, B_data]
  split
  · rename_i hs
    cases hp : parseGo (parts 59 s) [] with
    | none => rfl
    | some ds =>
      have hg := parse_Good hs hp
      have hok := good_ok hg ds.length (Nat.le_refl _)
      have hsm := good_small hg
      simp only [Option.bind_some, if_true]
      rw [text_ok ds rep hok hsm _ (by omega)]
      unfold csp_Check.f
      rw [if_pos ⟨by have := hg.1; omega, hsm⟩, hok]
      simp only [Option.bind_some, if_true]
      rw [bne_self_eq_false]
      simp only [bastionlaw14_CspBack.j0]
      rw [if_neg (by simp)]
      split
      · rfl
      · rename_i hlen
        rw [B_size] at hlen
        rw [parse_some (by omega) (parse_text hg)]
        simp only [Option.bind_some, if_true]
        rw [good_same hg rep _ (by omega)]
        simp only [Option.bind_some, Bool.not_true]
        simp only [bastionlaw14_CspBack.j1]
        rw [if_neg (by simp)]
        exact back_l ds rep m hg (by omega) hm m.length _ 0 (by omega) (by omega) (by omega) (by simp)
  · rfl
theorem cspBack_pure (a0 : ByteArray) (a1 : Bool) (a2 : ByteArray) (h : a0.size + a2.size ≤ 1048576) : ∃ k, bastionlaw14_CspBack.f k a0 a1 a2 = some true := by
  obtain ⟨s, rfl⟩ := B_ex a0
  obtain ⟨m, rfl⟩ := B_ex a2
  exact ⟨1049000, cspBack_any s a1 m (by rw [B_size, B_size] at h; omega)⟩
end Go.Proofs.YtnndgmbflkdhkaaGreatDoor.Q
end
