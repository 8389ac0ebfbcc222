/- The plain side of layer 22: the least greater numbers of the four groups; what is between. -/
import Derived.Test.YtabphhclnboknaaDoorN1
set_option linter.unusedVariables false
set_option linter.unusedSimpArgs false
namespace Go.Proofs.YtabphhclnboknaaDoor

theorem nth_den : ∀ k : Nat, k < 28 → (((partL.getD k (0, 0)).2 = 0 ↔ k = 0) ∧ 0 ≤ (partL.getD k (0, 0)).2 ∧ (partL.getD k (0, 0)).2 ≤ 9 ∧ 0 ≤ (partL.getD k (0, 0)).1 ∧ (partL.getD k (0, 0)).1 ≤ 9) := by decide +kernel
theorem place_den {p : Int × Int} (h : 0 ≤ place p) : (p.2 = 0 ↔ place p = 0) ∧ 0 ≤ p.2 ∧ p.2 ≤ 9 ∧ 0 ≤ p.1 ∧ p.1 ≤ 9 := by
  have h1 := place_some h
  have h2 := place_lt p
  have h3 := nth_den (place p).toNat (by omega)
  rw [List.getD_eq_getElem?_getD, h1] at h3
  simp only [Option.getD_some] at h3
  refine ⟨h3.1.trans ?_, h3.2⟩
  omega

def nextL (l : List UInt8) : Option (List UInt8) := match l with
  | [] => some [97]
  | c :: _ => if c = 122 then none else some [c + 1]
theorem nextL_rank {l : List UInt8} (h : letterB l = true) : (nextL l = none ∧ rank l = 26) ∨ ∃ m, nextL l = some m ∧ letterB m = true ∧ rank m = rank l + 1 ∧ m ≠ [] := by
  rcases (letterB_iff l).1 h with rfl | ⟨c, rfl, h1, h2⟩
  · exact .inr ⟨[97], rfl, rfl, rfl, by simp⟩
  · unfold nextL
    by_cases hc : c = 122
    · subst hc; exact .inl ⟨rfl, rfl⟩
    · have h3 : c.toNat ≠ 122 := fun e => hc (UInt8.toNat_inj.1 e)
      have h4 : (c + 1).toNat = c.toNat + 1 := by rw [UInt8.toNat_add]; simp; omega
      refine .inr ⟨[c + 1], by simp [hc], (letterB_iff _).2 (.inr ⟨_, rfl, by omega, by omega⟩), ?_, by simp⟩
      simp only [rank, h4]; omega
def moreP (a : HN) : Option HN := if place (a.num, a.den) + 1 < 28 then some { a with num := (partL.getD (place (a.num, a.den) + 1).toNat (0, 0)).1, den := (partL.getD (place (a.num, a.den) + 1).toNat (0, 0)).2 } else none
theorem moreP_some {a : HN} (h : 0 ≤ place (a.num, a.den)) : (moreP a = none ∧ place (a.num, a.den) = 27) ∨ ∃ x, moreP a = some x ∧ x.n = a.n ∧ x.l = a.l ∧ place (x.num, x.den) = place (a.num, a.den) + 1 := by
  have hl := place_lt (a.num, a.den)
  unfold moreP
  by_cases hk : place (a.num, a.den) + 1 < 28
  · rw [if_pos hk]
    refine .inr ⟨_, rfl, rfl, rfl, ?_⟩
    have := place_nth (place (a.num, a.den) + 1).toNat (by omega)
    show place (partL.getD (place (a.num, a.den) + 1).toNat (0, 0)) = _
    rw [this]; omega
  · rw [if_neg hk]; exact .inl ⟨rfl, by omega⟩

def g0 (a : HN) : HN := ⟨a.n + 1, [], 0, 0⟩
def g1 (a : HN) : HN := match nextL a.l with | some m => ⟨a.n, m, 0, 0⟩ | none => ⟨a.n + 1, [97], 0, 0⟩
def g2 (a : HN) : HN := match moreP a with
  | some x => if a.l = [] then x else ⟨a.n + 1, [], 1, 9⟩
  | none => ⟨a.n + 1, [], 1, 9⟩
def g3 (a : HN) : HN := match (if a.l = [] then none else moreP a) with
  | some x => x
  | none => match nextL a.l with | some m => ⟨a.n, m, 1, 9⟩ | none => ⟨a.n + 1, [97], 1, 9⟩
def group (h : HN) : Int := if h.l = [] then (if h.den = 0 then 0 else 2) else (if h.den = 0 then 1 else 3)
def gs (a : HN) (i : Nat) : HN := if i = 0 then g0 a else if i = 1 then g1 a else if i = 2 then g2 a else g3 a

theorem rank0 : rank [] = 0 := rfl
theorem rank97 : rank [97] = 1 := rfl
theorem p00 : place (0, 0) = 0 := by decide +kernel
theorem p19 : place (1, 9) = 1 := by decide +kernel
theorem rank_nil {l : List UInt8} (h : letterB l = true) : rank l = 0 ↔ l = [] := by
  rcases (letterB_iff l).1 h with rfl | ⟨c, rfl, h1, h2⟩
  · simp [rank]
  · simp [rank]; omega
/-- what a candidate is: its form, that it is greater, and least in its group -/
structure Cand (a x : HN) (i : Int) : Prop where
  letter : letterB x.l = true
  frac : 0 ≤ place (x.num, x.den)
  lo : a.n ≤ x.n
  hi : x.n ≤ a.n + 1
  more : a.key < x.key
  grp : group x = i
  least : ∀ y : HN, y.valid = true → a.key < y.key → group y = i → x.key ≤ y.key
theorem grp_rank {y : HN} (hy : y.valid = true) : (group y = 0 ↔ rank y.l = 0 ∧ place (y.num, y.den) = 0) ∧ (group y = 1 ↔ rank y.l ≠ 0 ∧ place (y.num, y.den) = 0) ∧ (group y = 2 ↔ rank y.l = 0 ∧ place (y.num, y.den) ≠ 0) ∧ (group y = 3 ↔ rank y.l ≠ 0 ∧ place (y.num, y.den) ≠ 0) := by
  obtain ⟨_, _, h3, h4⟩ := (valid_iff y).1 hy
  have e1 := rank_nil h3
  have e2 := (place_den h4).1
  simp only at e2
  unfold group
  by_cases h1 : y.l = [] <;> by_cases h2 : y.den = 0 <;> simp only [h1, h2, if_true, if_false] <;> simp only [h1, h2, iff_true, iff_false, true_iff, false_iff] at e1 e2 <;> simp_all
theorem cand0 {a : HN} (ha : a.valid = true) : Cand a (g0 a) 0 := by
  obtain ⟨a1, a2, a3, a4⟩ := (valid_iff a).1 ha
  have ra := rank_rng a3
  have pa := place_lt (a.num, a.den)
  refine ⟨rfl, by show 0 ≤ place (0, 0); rw [p00]; omega, by simp [g0]; omega, by simp [g0], ?_, rfl, fun y hy hk hg => ?_⟩
  · unfold HN.key; simp only [g0, rank0, p00]; omega
  · have h := (grp_rank hy).1.1 hg
    obtain ⟨y1, y2, y3, y4⟩ := (valid_iff y).1 hy
    unfold HN.key at *; simp only [g0, rank0, p00]; omega
theorem cand1 {a : HN} (ha : a.valid = true) : Cand a (g1 a) 1 := by
  obtain ⟨a1, a2, a3, a4⟩ := (valid_iff a).1 ha
  have ra := rank_rng a3
  have pa := place_lt (a.num, a.den)
  unfold g1
  rcases nextL_rank a3 with ⟨e, hr⟩ | ⟨m, e, hm, hr, hne⟩ <;> rw [e] <;> simp only
  · refine ⟨rfl, by show 0 ≤ place (0, 0); rw [p00]; omega, by simp only; omega, by simp only; omega, ?_, rfl, fun y hy hk hg => ?_⟩
    · unfold HN.key; simp only [rank97, p00]; omega
    · have h := (grp_rank hy).2.1.1 hg
      obtain ⟨y1, y2, y3, y4⟩ := (valid_iff y).1 hy
      have ry := rank_rng y3
      unfold HN.key at *; simp only [rank97, p00]; omega
  · refine ⟨hm, by show 0 ≤ place (0, 0); rw [p00]; omega, by simp only; omega, by simp only; omega, ?_, by simp [group, hne], fun y hy hk hg => ?_⟩
    · unfold HN.key; simp only [hr, p00]; omega
    · have h := (grp_rank hy).2.1.1 hg
      obtain ⟨y1, y2, y3, y4⟩ := (valid_iff y).1 hy
      have ry := rank_rng y3
      unfold HN.key at *; simp only [hr, p00]; omega
theorem den_ne {x : HN} (h : 0 < place (x.num, x.den)) : x.den ≠ 0 := fun e => by
  have := (place_den (p := (x.num, x.den)) (by omega)).1.1 e
  omega
theorem cand2 {a : HN} (ha : a.valid = true) : Cand a (g2 a) 2 := by
  obtain ⟨a1, a2, a3, a4⟩ := (valid_iff a).1 ha
  have ra := rank_rng a3
  have pa := place_lt (a.num, a.den)
  have rn := rank_nil a3
  have far : (rank a.l ≠ 0 ∨ place (a.num, a.den) = 27) → Cand a ⟨a.n + 1, [], 1, 9⟩ 2 := fun hc => by
    refine ⟨rfl, by show 0 ≤ place (1, 9); rw [p19]; omega, by simp only; omega, by simp only; omega, ?_, rfl, fun y hy hk hg => ?_⟩
    · unfold HN.key; simp only [rank0, p19]; omega
    · have h := (grp_rank hy).2.2.1.1 hg
      obtain ⟨y1, y2, y3, y4⟩ := (valid_iff y).1 hy
      have py := place_lt (y.num, y.den)
      unfold HN.key at *; simp only [rank0, p19]; omega
  unfold g2
  rcases moreP_some a4 with ⟨e, hp⟩ | ⟨x, e, h1, h2, h3⟩ <;> rw [e] <;> simp only
  · exact far (.inr hp)
  · by_cases hl : a.l = []
    · rw [if_pos hl]
      have hr := rn.2 hl
      refine ⟨by rw [h2]; exact a3, by omega, by omega, by omega, ?_, ?_, fun y hy hk hg => ?_⟩
      · unfold HN.key; rw [h1, h2, h3]; omega
      · unfold group; rw [h2, if_pos hl, if_neg (den_ne (by omega))]
      · have h := (grp_rank hy).2.2.1.1 hg
        unfold HN.key at *; rw [h1, h2, h3]; omega
    · rw [if_neg hl]
      exact far (.inl (fun h => hl (rn.1 h)))
theorem cand3 {a : HN} (ha : a.valid = true) : Cand a (g3 a) 3 := by
  obtain ⟨a1, a2, a3, a4⟩ := (valid_iff a).1 ha
  have ra := rank_rng a3
  have pa := place_lt (a.num, a.den)
  have rn := rank_nil a3
  have far : (rank a.l = 0 ∨ place (a.num, a.den) = 27) → Cand a (match nextL a.l with | some m => ⟨a.n, m, 1, 9⟩ | none => ⟨a.n + 1, [97], 1, 9⟩) 3 := fun hc => by
    rcases nextL_rank a3 with ⟨e, hr⟩ | ⟨m, e, hm, hr, hne⟩ <;> rw [e] <;> simp only
    · refine ⟨rfl, by show 0 ≤ place (1, 9); rw [p19]; omega, by simp only; omega, by simp only; omega, ?_, rfl, fun y hy hk hg => ?_⟩
      · unfold HN.key; simp only [rank97, p19]; omega
      · have h := (grp_rank hy).2.2.2.1 hg
        obtain ⟨y1, y2, y3, y4⟩ := (valid_iff y).1 hy
        have ry := rank_rng y3
        have py := place_lt (y.num, y.den)
        unfold HN.key at *; simp only [rank97, p19]; omega
    · refine ⟨hm, by show 0 ≤ place (1, 9); rw [p19]; omega, by simp only; omega, by simp only; omega, ?_, by simp [group, hne], fun y hy hk hg => ?_⟩
      · unfold HN.key; simp only [hr, p19]; omega
      · have h := (grp_rank hy).2.2.2.1 hg
        obtain ⟨y1, y2, y3, y4⟩ := (valid_iff y).1 hy
        have ry := rank_rng y3
        have py := place_lt (y.num, y.den)
        unfold HN.key at *; simp only [hr, p19]; omega
  unfold g3
  by_cases hl : a.l = []
  · rw [if_pos hl]
    exact far (.inl (rn.2 hl))
  · rw [if_neg hl]
    rcases moreP_some a4 with ⟨e, hp⟩ | ⟨x, e, h1, h2, h3⟩ <;> rw [e] <;> simp only
    · exact far (.inr hp)
    · have hr : rank a.l ≠ 0 := fun h => hl (rn.1 h)
      refine ⟨by rw [h2]; exact a3, by omega, by omega, by omega, ?_, ?_, fun y hy hk hg => ?_⟩
      · unfold HN.key; rw [h1, h2, h3]; omega
      · unfold group; rw [h2, if_neg hl, if_neg (den_ne (by omega))]
      · have h := (grp_rank hy).2.2.2.1 hg
        unfold HN.key at *; rw [h1, h2, h3]; omega
/-- a candidate that is not greater than a valid number is valid -/
theorem Cand.valid {a x y : HN} {i : Int} (h : Cand a x i) (ha : a.valid = true) (hy : y.valid = true) (hk : x.key ≤ y.key) : x.valid = true := by
  obtain ⟨a1, a2, a3, a4⟩ := (valid_iff a).1 ha
  obtain ⟨y1, y2, y3, y4⟩ := (valid_iff y).1 hy
  have hl := h.letter
  have hf := h.frac
  have lo := h.lo
  have rx := rank_rng hl
  have ry := rank_rng y3
  have py := place_lt (y.num, y.den)
  refine (valid_iff x).2 ⟨by omega, ?_, hl, hf⟩
  unfold HN.key at hk
  omega
def between (a b : HN) : Option HN := if (g0 a).lt b then some (g0 a) else if (g1 a).lt b then some (g1 a) else if (g2 a).lt b then some (g2 a) else if (g3 a).lt b then some (g3 a) else none
theorem lt_iff (a b : HN) : a.lt b = true ↔ a.valid = true ∧ b.valid = true ∧ a.key < b.key := by
  unfold HN.lt
  simp only [Bool.and_eq_true, decide_eq_true_eq, and_assoc]
theorem grp_cases (x : HN) : group x = 0 ∨ group x = 1 ∨ group x = 2 ∨ group x = 3 := by
  unfold group; split <;> split <;> simp
/-- the law on Between -/
theorem between_some {a b n : HN} (ha : a.valid = true) (hb : b.valid = true) (h : between a b = some n) :
    n.valid = true ∧ a.lt n = true ∧ n.lt b = true ∧ ∀ x : HN, a.lt x = true → x.lt b = true → group n < group x ∨ (group n = group x ∧ x.lt n = false) := by
  have c0 := cand0 ha
  have c1 := cand1 ha
  have c2 := cand2 ha
  have c3 := cand3 ha
  have no : ∀ {x y : HN} {i : Int}, Cand a x i → x.lt b = false → a.lt y = true → y.lt b = true → group y = i → False := by
    intro x y i c hx h1 h2 hg
    rw [lt_iff] at h1 h2
    have hk := c.least y h1.2.1 h1.2.2 hg
    have hv := c.valid ha h1.2.1 hk
    have : x.lt b = true := (lt_iff _ _).2 ⟨hv, hb, by omega⟩
    rw [hx] at this; cases this
  have fin : ∀ {x : HN} {i : Int}, Cand a x i → x.lt b = true → x.valid = true ∧ a.lt x = true ∧ x.lt b = true ∧ ∀ y : HN, a.lt y = true → y.lt b = true → group y = i → y.lt x = false := by
    intro x i c hx
    have hx' := (lt_iff _ _).1 hx
    refine ⟨hx'.1, (lt_iff _ _).2 ⟨ha, hx'.1, c.more⟩, hx, fun y h1 h2 hg => ?_⟩
    rw [lt_iff] at h1
    have hk := c.least y h1.2.1 h1.2.2 hg
    rw [← Bool.not_eq_true, lt_iff]
    omega
  unfold between at h
  by_cases h0 : (g0 a).lt b = true
  · rw [if_pos h0] at h
    injection h with h; subst h
    obtain ⟨f1, f2, f3, f4⟩ := fin c0 h0
    refine ⟨f1, f2, f3, fun y y1 y2 => ?_⟩
    rw [c0.grp]
    rcases grp_cases y with g | g | g | g
    · exact .inr ⟨g.symm, f4 y y1 y2 g⟩
    all_goals exact .inl (by omega)
  · rw [if_neg h0] at h
    have n0 := fun {y : HN} => no (y := y) c0 (by simpa using h0)
    by_cases h1 : (g1 a).lt b = true
    · rw [if_pos h1] at h
      injection h with h; subst h
      obtain ⟨f1, f2, f3, f4⟩ := fin c1 h1
      refine ⟨f1, f2, f3, fun y y1 y2 => ?_⟩
      rw [c1.grp]
      rcases grp_cases y with g | g | g | g
      · exact (n0 y1 y2 g).elim
      · exact .inr ⟨g.symm, f4 y y1 y2 g⟩
      all_goals exact .inl (by omega)
    · rw [if_neg h1] at h
      have n1 := fun {y : HN} => no (y := y) c1 (by simpa using h1)
      by_cases h2 : (g2 a).lt b = true
      · rw [if_pos h2] at h
        injection h with h; subst h
        obtain ⟨f1, f2, f3, f4⟩ := fin c2 h2
        refine ⟨f1, f2, f3, fun y y1 y2 => ?_⟩
        rw [c2.grp]
        rcases grp_cases y with g | g | g | g
        · exact (n0 y1 y2 g).elim
        · exact (n1 y1 y2 g).elim
        · exact .inr ⟨g.symm, f4 y y1 y2 g⟩
        · exact .inl (by omega)
      · rw [if_neg h2] at h
        have n2 := fun {y : HN} => no (y := y) c2 (by simpa using h2)
        by_cases h3 : (g3 a).lt b = true
        · rw [if_pos h3] at h
          injection h with h; subst h
          obtain ⟨f1, f2, f3, f4⟩ := fin c3 h3
          refine ⟨f1, f2, f3, fun y y1 y2 => ?_⟩
          rw [c3.grp]
          rcases grp_cases y with g | g | g | g
          · exact (n0 y1 y2 g).elim
          · exact (n1 y1 y2 g).elim
          · exact (n2 y1 y2 g).elim
          · exact .inr ⟨g.symm, f4 y y1 y2 g⟩
        · rw [if_neg h3] at h; cases h
theorem between_none {a b : HN} (ha : a.valid = true) (hb : b.valid = true) (h : between a b = none) (x : HN) (h1 : a.lt x = true) (h2 : x.lt b = true) : False := by
  have no : ∀ {x y : HN} {i : Int}, Cand a x i → ¬ x.lt b = true → a.lt y = true → y.lt b = true → group y = i → False := by
    intro x y i c hx h1 h2 hg
    rw [lt_iff] at h1 h2
    have hk := c.least y h1.2.1 h1.2.2 hg
    have hv := c.valid ha h1.2.1 hk
    exact hx ((lt_iff _ _).2 ⟨hv, hb, by omega⟩)
  unfold between at h
  by_cases k0 : (g0 a).lt b = true
  · rw [if_pos k0] at h; cases h
  · rw [if_neg k0] at h
    by_cases k1 : (g1 a).lt b = true
    · rw [if_pos k1] at h; cases h
    · rw [if_neg k1] at h
      by_cases k2 : (g2 a).lt b = true
      · rw [if_pos k2] at h; cases h
      · rw [if_neg k2] at h
        by_cases k3 : (g3 a).lt b = true
        · rw [if_pos k3] at h; cases h
        · rcases grp_cases x with g | g | g | g
          · exact no (cand0 ha) k0 h1 h2 g
          · exact no (cand1 ha) k1 h1 h2 g
          · exact no (cand2 ha) k2 h1 h2 g
          · exact no (cand3 ha) k3 h1 h2 g
end Go.Proofs.YtabphhclnboknaaDoor
