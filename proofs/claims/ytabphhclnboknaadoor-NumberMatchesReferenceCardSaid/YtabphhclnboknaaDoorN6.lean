/- The plain side of the reference of layer 22. -/
import Derived.Test.YtabphhclnboknaaDoorN4
set_option linter.unusedVariables false
set_option linter.unusedSimpArgs false
namespace Go.Proofs.YtabphhclnboknaaDoor
open Go

/-! fractions -/
def comB (a b : Nat) (k : Nat) : Bool := (List.range k).any fun d => decide (2 ≤ d) && (decide (a % d = 0) && decide (b % d = 0))
def commonB (a b : Nat) : Bool := comB a b (a + 1)
theorem comB_succ (a b k : Nat) : comB a b (k + 1) = (comB a b k || (decide (2 ≤ k) && (decide (a % k = 0) && decide (b % k = 0)))) := by
  unfold comB
  rw [List.range_succ, List.any_append]
  simp
theorem comB_two (a b : Nat) : comB a b 2 = false := rfl
theorem comB_mono {a b k m : Nat} (h : comB a b k = true) (hk : k ≤ m) : comB a b m = true := by
  unfold comB at *
  rw [List.any_eq_true] at *
  obtain ⟨d, hd, h⟩ := h
  exact ⟨d, List.mem_range.2 (by have := List.mem_range.1 hd; omega), h⟩
def fracB (a b : Int) : Bool := (decide (a = 0) && decide (b = 0)) || (decide (1 ≤ a) && (decide (a < b) && (decide (b ≤ 9) && !commonB a.toNat b.toNat)))
theorem frac_fin : ∀ a : Nat, a < 10 → ∀ b : Nat, b < 10 → decide (0 ≤ place ((a : Int), (b : Int))) = fracB a b := by decide +kernel
theorem frac_place (a b : Int) : decide (0 ≤ place (a, b)) = fracB a b := by
  by_cases h : 0 ≤ a ∧ a ≤ 9 ∧ 0 ≤ b ∧ b ≤ 9
  · have := frac_fin a.toNat (by omega) b.toNat (by omega)
    rwa [show ((a.toNat : Nat) : Int) = a by omega, show ((b.toNat : Nat) : Int) = b by omega] at this
  · have h1 : decide (0 ≤ place (a, b)) = false := decide_eq_false fun hp => by
      have := place_den hp
      simp only at this
      omega
    have h2 : fracB a b = false := by
      rw [← Bool.not_eq_true]
      intro hf
      unfold fracB at hf
      simp only [Bool.or_eq_true, Bool.and_eq_true, decide_eq_true_eq] at hf
      omega
    rw [h1, h2]
def fracLtB (p q : Int × Int) : Bool := if p.2 = 0 ∨ q.2 = 0 then decide (p.2 = 0) && decide (0 < q.2) else decide (p.1 * q.2 < q.1 * p.2)
theorem fracLt_fin : ∀ i : Nat, i < 28 → ∀ j : Nat, j < 28 → fracLtB (partL.getD i (0, 0)) (partL.getD j (0, 0)) = decide (i < j) := by decide +kernel
theorem fracLt_place {p q : Int × Int} (hp : 0 ≤ place p) (hq : 0 ≤ place q) : fracLtB p q = decide (place p < place q) := by
  have h1 := place_lt p
  have h2 := place_lt q
  have h := fracLt_fin (place p).toNat (by omega) (place q).toNat (by omega)
  rw [List.getD_eq_getElem?_getD, List.getD_eq_getElem?_getD, place_some hp, place_some hq] at h
  simp only [Option.getD_some] at h
  rw [h]
  exact decide_eq_decide.2 (by omega)
/-! the order -/
def lessB (a b : HN) : Bool := if a.n ≠ b.n then decide (a.n < b.n) else if rank a.l ≠ rank b.l then decide (rank a.l < rank b.l) else fracLtB (a.num, a.den) (b.num, b.den)
theorem less_key {a b : HN} (ha : a.valid = true) (hb : b.valid = true) : lessB a b = a.lt b := by
  obtain ⟨a1, a2, a3, a4⟩ := (valid_iff a).1 ha
  obtain ⟨b1, b2, b3, b4⟩ := (valid_iff b).1 hb
  have ra := rank_rng a3
  have rb := rank_rng b3
  have pa := place_lt (a.num, a.den)
  have pb := place_lt (b.num, b.den)
  unfold lessB HN.lt
  rw [ha, hb, fracLt_place a4 b4]
  unfold HN.key
  generalize place (a.num, a.den) = x at *
  generalize place (b.num, b.den) = y at *
  generalize rank a.l = u at *
  generalize rank b.l = v at *
  simp only [Bool.true_and]
  by_cases h1 : a.n = b.n
  · rw [if_neg (by simpa using h1)]
    by_cases h2 : u = v
    · rw [if_neg (by simpa using h2)]
      exact decide_eq_decide.2 (by omega)
    · rw [if_pos h2]
      exact decide_eq_decide.2 (by omega)
  · rw [if_pos h1]
    exact decide_eq_decide.2 (by omega)
theorem lt_irr {a b : HN} (h : a.lt b = true) : b.lt a = false := by
  rw [lt_iff] at h
  rw [← Bool.not_eq_true, lt_iff]
  omega
/-! texts -/
def dgB (c : UInt8) : Bool := decide (48 ≤ c.toNat) && decide (c.toNat ≤ 57)
theorem dgB_iff (c : UInt8) : dgB c = true ↔ isDg c := by unfold dgB isDg; simp
def restR (r : List UInt8) : List UInt8 × List UInt8 := match r with
  | [] => ([], [])
  | c :: r => if c = 32 then ([], c :: r) else ([c], r)
def tailR (r : List UInt8) : Int × Int := match r with
  | [_, x, _, y] => ((x.toNat : Int) - 48, (y.toNat : Int) - 48)
  | _ => (0, 0)
def candR (t : List UInt8) : HN := ⟨val 0 (t.takeWhile dgB), (restR (t.dropWhile dgB)).1, (tailR (restR (t.dropWhile dgB)).2).1, (tailR (restR (t.dropWhile dgB)).2).2⟩
theorem takeW_app : ∀ {l r : List UInt8}, (∀ c ∈ l, dgB c = true) → (∀ c r', r = c :: r' → dgB c = false) → (l ++ r).takeWhile dgB = l ∧ (l ++ r).dropWhile dgB = r
  | [], r, _, h => by
    cases r with
    | nil => exact ⟨rfl, rfl⟩
    | cons c r => simp [h c r rfl]
  | c :: l, r, hl, h => by
    have ih := takeW_app (l := l) (r := r) (fun c hc => hl c (by simp [hc])) h
    simp [hl c (by simp), ih.1, ih.2]
theorem dec_len9 : ∀ (n u : Nat), u < 10 ^ (n + 1) → (Lib.decDigits u).length ≤ n + 1 := by
  intro n
  induction n with
  | zero => intro u hu; rw [Lib.decDigits, dif_pos (show u < 10 by omega)]; simp
  | succ n ih =>
    intro u hu
    rw [Lib.decDigits]
    split
    · simp
    · rw [List.length_append]
      have := ih (u / 10) (by rw [Nat.pow_succ] at hu; omega)
      simp; omega
theorem itoa_one {n : Int} (h : 0 ≤ n) (h' : n ≤ 9) : Lib.itoa n = [UInt8.ofNat (48 + n.toNat)] := by
  rw [itoa_dec h, Lib.decDigits, dif_pos (by omega)]
theorem candR_text {a : HN} (ha : a.valid = true) : candR (textP a) = a := by
  obtain ⟨h1, h2, h3, h4⟩ := (valid_iff a).1 ha
  obtain ⟨d1, d2, d3, d4, d5⟩ := place_den h4
  simp only at d1 d2 d3 d4 d5
  have hn := (itoa_dg (n := a.n) (by omega)).1
  have hv : (val 0 (Lib.itoa a.n) : Int) = a.n := by rw [itoa_dec (by omega), val_dec]; omega
  have hf : fracP a = [] ∧ a.num = 0 ∧ a.den = 0 ∨ fracP a = [32, UInt8.ofNat (48 + a.num.toNat), 47, UInt8.ofNat (48 + a.den.toNat)] := by
    unfold fracP
    by_cases hd : 0 < a.den
    · right
      rw [if_pos hd, itoa_one d4 d5, itoa_one d2 d3]
      rfl
    · left
      rw [if_neg hd]
      have e0 : a.den = 0 := by omega
      have hp := place_inj (p := (a.num, a.den)) (q := (0, 0)) h4 (by rw [p00]; exact d1.1 e0)
      simp only [Prod.mk.injEq] at hp
      exact ⟨rfl, hp.1, hp.2⟩
  have hsp : dgB 32 = false := by decide
  have fin : ∀ r, restR (a.l ++ fracP a) = (a.l, r) → tailR r = (a.num, a.den) → (∀ c r', a.l ++ fracP a = c :: r' → dgB c = false) → candR (textP a) = a := by
    intro r e1 e2 e3
    have hw := takeW_app (l := Lib.itoa a.n) (r := a.l ++ fracP a) (fun c hc => (dgB_iff c).2 (hn c hc)) e3
    unfold candR textP
    rw [List.append_assoc, hw.1, hw.2, hv, e1]
    simp only
    rw [e2]
  have ht : tailR [32, UInt8.ofNat (48 + a.num.toNat), 47, UInt8.ofNat (48 + a.den.toNat)] = (a.num, a.den) := by
    show (((UInt8.ofNat (48 + a.num.toNat)).toNat : Int) - 48, ((UInt8.ofNat (48 + a.den.toNat)).toNat : Int) - 48) = _
    rw [ofNat_dg (by omega), ofNat_dg (by omega), Prod.mk.injEq]
    omega
  rcases (letterB_iff a.l).1 h3 with e | ⟨c, e, c1, c2⟩
  · rcases hf with ⟨f, f1, f2⟩ | f
    · exact fin [] (by rw [e, f]; rfl) (by rw [f1, f2]; rfl) (fun c r' h => by rw [e, f] at h; cases h)
    · refine fin _ (by rw [e, f]; rfl) ht (fun c r' h => ?_)
      rw [e, f] at h
      injection h with h _
      rw [← h]; exact hsp
  · have hc : dgB c = false := by unfold dgB; simp; omega
    have hc32 : ¬ c = 32 := fun h => by rw [h] at c1; simp at c1
    have hr : ∀ r, restR (c :: r) = ([c], r) := fun r => by unfold restR; simp only; rw [if_neg hc32]
    have hx : ∀ c0 r', a.l ++ fracP a = c0 :: r' → dgB c0 = false := fun c0 r' h => by
      rw [e] at h
      injection h with h _
      rw [← h]; exact hc
    rcases hf with ⟨f, f1, f2⟩ | f
    · exact fin [] (by rw [e, f]; exact hr _) (by rw [f1, f2]; rfl) hx
    · exact fin _ (by rw [e, f]; exact hr _) ht hx
theorem text_len {a : HN} (ha : a.valid = true) : (textP a).length ≤ 9 := by
  obtain ⟨h1, h2, h3, h4⟩ := (valid_iff a).1 ha
  obtain ⟨d1, d2, d3, d4, d5⟩ := place_den h4
  simp only at d1 d2 d3 d4 d5
  have hn : (Lib.itoa a.n).length ≤ 4 := by rw [itoa_dec (by omega)]; exact dec_len9 3 _ (by omega)
  have hl : a.l.length ≤ 1 := by
    rcases (letterB_iff a.l).1 h3 with e | ⟨c, e, _, _⟩ <;> rw [e] <;> simp
  have hf : (fracP a).length ≤ 4 := by
    unfold fracP
    split
    · rw [itoa_one d4 d5, itoa_one d2 d3]; simp
    · simp
  unfold textP
  simp only [List.length_append]
  omega
theorem parse_long {t : List UInt8} (h : 9 < t.length) : parseP t = none := by
  cases hp : parseP t with
  | none => rfl
  | some a =>
    obtain ⟨h1, h2⟩ := parse_some hp
    have := text_len h1
    rw [h2] at this
    omega
theorem parse_R (t : List UInt8) : parseP t = if (candR t).valid && decide (textP (candR t) = t) then some (candR t) else none := by
  by_cases h : (candR t).valid = true ∧ textP (candR t) = t
  · rw [if_pos (by simp [h.1, h.2])]
    have := parse_text h.1
    rwa [h.2] at this
  · rw [if_neg (by simpa using h)]
    cases hp : parseP t with
    | none => rfl
    | some a =>
      obtain ⟨h1, h2⟩ := parse_some hp
      exfalso
      apply h
      rw [← h2, candR_text h1]
      exact ⟨h1, rfl⟩
/-! between -/
def mB (x : HN) : Int := group x * 100000000 + x.key
def codeH (x : HN) : Int := ((x.n * 27 + rank x.l) * 10 + x.den) * 10 + x.num
/-- the best of those that were seen -/
def BestI (a b best : HN) (C : Int) : Prop :=
  (best = ⟨0, [], 0, 0⟩ ∧ ∀ x : HN, a.lt x = true → x.lt b = true → codeH x < C → False) ∨
  ((a.lt best = true ∧ best.lt b = true) ∧ ∀ x : HN, a.lt x = true → x.lt b = true → codeH x < C → mB best ≤ mB x)
theorem key_rng {x : HN} (h : x.valid = true) : 0 < x.key ∧ x.key < 10000000 := by
  obtain ⟨h1, h2, h3, h4⟩ := (valid_iff x).1 h
  have := rank_rng h3
  have := place_lt (x.num, x.den)
  unfold HN.key
  omega
theorem code_rng {x : HN} (h : x.valid = true) : 1 ≤ x.n ∧ x.n ≤ 9999 ∧ 0 ≤ rank x.l ∧ rank x.l ≤ 26 ∧ 0 ≤ x.num ∧ x.num ≤ x.den ∧ x.den ≤ 9 := by
  obtain ⟨h1, h2, h3, h4⟩ := (valid_iff x).1 h
  have h5 := rank_rng h3
  have h6 := frac_place x.num x.den
  rw [decide_eq_true h4] at h6
  have h7 := h6.symm
  unfold fracB at h7
  simp only [Bool.or_eq_true, Bool.and_eq_true, decide_eq_true_eq] at h7
  omega
theorem best_start {a b : HN} : BestI a b ⟨0, [], 0, 0⟩ (a.n * 2700) := by
  refine .inl ⟨rfl, fun x h1 h2 h3 => ?_⟩
  obtain ⟨v1, v2, hk⟩ := (lt_iff _ _).1 h1
  obtain ⟨r1, r2, r3, r4, r5, r6, r7⟩ := code_rng v2
  have ra := (rank_rng ((valid_iff a).1 v1).2.2.1)
  have pa := place_lt (a.num, a.den)
  have px := place_lt (x.num, x.den)
  have p1 := ((valid_iff a).1 v1).2.2.2
  unfold HN.key at hk
  unfold codeH at h3
  omega
/-- nothing is seen between two codes -/
theorem best_skip {a b best : HN} {C D : Int} (h : BestI a b best C) (hs : ∀ x : HN, a.lt x = true → x.lt b = true → codeH x < D → codeH x < C) : BestI a b best D := by
  rcases h with ⟨h1, h2⟩ | ⟨h1, h2⟩
  · exact .inl ⟨h1, fun x a1 a2 a3 => h2 x a1 a2 (hs x a1 a2 a3)⟩
  · exact .inr ⟨h1, fun x a1 a2 a3 => h2 x a1 a2 (hs x a1 a2 a3)⟩
theorem code_inj {x y : HN} (hx : x.valid = true) (hy : y.valid = true) (h : codeH x = codeH y) : x = y := by
  obtain ⟨r1, r2, r3, r4, r5, r6, r7⟩ := code_rng hx
  obtain ⟨s1, s2, s3, s4, s5, s6, s7⟩ := code_rng hy
  unfold codeH at h
  have e1 : x.n = y.n := by omega
  have e2 : rank x.l = rank y.l := by omega
  have e3 : x.den = y.den := by omega
  have e4 : x.num = y.num := by omega
  have e5 := rank_inj ((valid_iff x).1 hx).2.2.1 ((valid_iff y).1 hy).2.2.1 e2
  cases x; cases y
  simp_all
/-- one that is no candidate -/
theorem best_no {a b best x : HN} {C : Int} (h : BestI a b best C) (hC : codeH x = C) (hn : ¬ (a.lt x = true ∧ x.lt b = true)) (hx : x.valid = true) : BestI a b best (C + 1) := by
  refine best_skip h fun y y1 y2 y3 => ?_
  rcases Int.lt_or_eq_of_le (show codeH y ≤ C by omega) with hlt | he
  · exact hlt
  · exfalso
    apply hn
    rw [code_inj hx ((lt_iff _ _).1 y1).2.1 (hC.trans he.symm)]
    exact ⟨y1, y2⟩
theorem best_bad {a b best : HN} {C : Int} (h : BestI a b best C) (hn : ∀ x : HN, x.valid = true → codeH x ≠ C) : BestI a b best (C + 1) := by
  refine best_skip h fun y y1 y2 y3 => ?_
  have := hn y ((lt_iff _ _).1 y1).2.1
  omega
/-- the test of the reference: is it better? -/
def betterB (best x : HN) : Bool := decide (best.n = 0) || (decide (group x < group best) || (decide (group x = group best) && x.lt best))
theorem better_m {a b best x : HN} (hb : a.lt best = true ∧ best.lt b = true) (hx : a.lt x = true ∧ x.lt b = true) : betterB best x = decide (mB x < mB best) := by
  have v1 := ((lt_iff _ _).1 hb.1).2.1
  have v2 := ((lt_iff _ _).1 hx.1).2.1
  have k1 := key_rng v1
  have k2 := key_rng v2
  have n1 := (valid_iff _).1 v1
  unfold betterB mB HN.lt
  rw [decide_eq_false (show ¬ best.n = 0 by omega), v1, v2, Bool.false_or, Bool.true_and, Bool.true_and, Bool.eq_iff_iff]
  simp only [Bool.or_eq_true, Bool.and_eq_true, decide_eq_true_eq]
  omega
theorem best_yes {a b best x : HN} {C : Int} (h : BestI a b best C) (hC : codeH x = C) (hx : a.lt x = true ∧ x.lt b = true) (hbt : betterB best x = true) : BestI a b x (C + 1) := by
  have vx := ((lt_iff _ _).1 hx.1).2.1
  refine .inr ⟨hx, fun y y1 y2 y3 => ?_⟩
  rcases Int.lt_or_eq_of_le (show codeH y ≤ C by omega) with hlt | he
  · rcases h with ⟨h1, h2⟩ | ⟨h1, h2⟩
    · exact (h2 y y1 y2 hlt).elim
    · rw [better_m h1 hx, decide_eq_true_eq] at hbt
      have := h2 y y1 y2 hlt
      omega
  · rw [code_inj vx ((lt_iff _ _).1 y1).2.1 (hC.trans he.symm)]
    exact Int.le_refl _
theorem best_keep {a b best x : HN} {C : Int} (h : BestI a b best C) (hC : codeH x = C) (hx : a.lt x = true ∧ x.lt b = true) (hbt : betterB best x = false) : BestI a b best (C + 1) := by
  have vx := ((lt_iff _ _).1 hx.1).2.1
  rcases h with ⟨h1, h2⟩ | ⟨h1, h2⟩
  · rw [h1] at hbt
    simp [betterB] at hbt
  · refine .inr ⟨h1, fun y y1 y2 y3 => ?_⟩
    rcases Int.lt_or_eq_of_le (show codeH y ≤ C by omega) with hlt | he
    · exact h2 y y1 y2 hlt
    · rw [← code_inj vx ((lt_iff _ _).1 y1).2.1 (hC.trans he.symm)]
      rw [better_m h1 hx, decide_eq_false_iff_not] at hbt
      omega
theorem between_hi {a b n : HN} (h : between a b = some n) (ha : a.valid = true) : n.n ≤ a.n + 1 := by
  unfold between at h
  have c0 := (cand0 ha).hi
  have c1 := (cand1 ha).hi
  have c2 := (cand2 ha).hi
  have c3 := (cand3 ha).hi
  by_cases k0 : (g0 a).lt b = true
  · rw [if_pos k0] at h; injection h with h; subst h; exact c0
  · rw [if_neg k0] at h
    by_cases k1 : (g1 a).lt b = true
    · rw [if_pos k1] at h; injection h with h; subst h; exact c1
    · rw [if_neg k1] at h
      by_cases k2 : (g2 a).lt b = true
      · rw [if_pos k2] at h; injection h with h; subst h; exact c2
      · rw [if_neg k2] at h
        by_cases k3 : (g3 a).lt b = true
        · rw [if_pos k3] at h; injection h with h; subst h; exact c3
        · rw [if_neg k3] at h; cases h
theorem mB_inj {x y : HN} (hx : x.valid = true) (hy : y.valid = true) (h : mB x = mB y) : x = y := by
  have k1 := key_rng hx
  have k2 := key_rng hy
  have g1 := grp_cases x
  have g2 := grp_cases y
  unfold mB at h
  exact key_inj hx hy (by omega)
theorem best_end {a b best : HN} {C : Int} (ha : a.valid = true) (hb : b.valid = true) (h : BestI a b best C) (hC : ∀ x : HN, x.valid = true → x.n ≤ a.n + 1 → codeH x < C) :
    (best = ⟨0, [], 0, 0⟩ ∧ between a b = none) ∨ (best.valid = true ∧ between a b = some best) := by
  rcases h with ⟨h1, h2⟩ | ⟨h1, h2⟩
  · left
    refine ⟨h1, ?_⟩
    cases hn : between a b with
    | none => rfl
    | some n =>
      obtain ⟨f1, f2, f3, _⟩ := between_some ha hb hn
      exact (h2 n f2 f3 (hC n f1 (between_hi hn ha))).elim
  · right
    have v1 := ((lt_iff _ _).1 h1.1).2.1
    refine ⟨v1, ?_⟩
    cases hn : between a b with
    | none => exact (between_none ha hb hn best h1.1 h1.2).elim
    | some n =>
      obtain ⟨f1, f2, f3, f4⟩ := between_some ha hb hn
      have h3 := h2 n f2 f3 (hC n f1 (between_hi hn ha))
      have h4 := f4 best h1.1 h1.2
      have k1 := key_rng v1
      have k2 := key_rng f1
      have h5 : mB n ≤ mB best := by
        unfold mB
        rcases h4 with h4 | ⟨h4, h5⟩
        · omega
        · have : ¬ best.key < n.key := fun hk => by
            rw [(lt_iff best n).2 ⟨v1, f1, hk⟩] at h5
            cases h5
          omega
      rw [mB_inj v1 f1 (by omega)]
end Go.Proofs.YtabphhclnboknaaDoor
