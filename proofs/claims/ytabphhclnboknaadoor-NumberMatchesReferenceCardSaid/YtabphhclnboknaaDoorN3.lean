/- The plain side of layer 22: parts, room, sides. -/
import Derived.Test.YtabphhclnboknaaDoorN2
set_option linter.unusedVariables false
set_option linter.unusedSimpArgs false
namespace Go.Proofs.YtabphhclnboknaaDoor

def whole (n : Int) : HN := ⟨n, [], 0, 0⟩
theorem whole_key (n : Int) : (whole n).key = n * 756 := by unfold HN.key whole; simp only [rank0, p00]; omega
theorem whole_valid {n : Int} (h1 : 1 ≤ n) (h2 : n ≤ 9999) : (whole n).valid = true := (valid_iff _).2 ⟨h1, h2, rfl, by show 0 ≤ place (0, 0); rw [p00]; omega⟩
theorem whole_bad {n : Int} (h : 9999 < n) : (whole n).valid = false := by
  rw [← Bool.not_eq_true, valid_iff]
  rintro ⟨_, h2, _⟩
  have : n ≤ 9999 := h2
  omega
def HN.rest (h : HN) : HN := { h with num := 0, den := 0 }
theorem rest_valid {h : HN} (hv : h.valid = true) : h.rest.valid = true := by
  obtain ⟨h1, h2, h3, h4⟩ := (valid_iff h).1 hv
  exact (valid_iff _).2 ⟨h1, h2, h3, by show 0 ≤ place (0, 0); rw [p00]; omega⟩
theorem rest_lt {h : HN} (hv : h.valid = true) (hd : 0 < h.den) : h.rest.lt h = true := by
  obtain ⟨h1, h2, h3, h4⟩ := (valid_iff h).1 hv
  refine (lt_iff _ _).2 ⟨rest_valid hv, hv, ?_⟩
  have e := (place_den h4).1
  simp only at e
  have : (h.rest).key = (h.n * 27 + rank h.l) * 28 + 0 := by unfold HN.key HN.rest; simp only [p00]
  rw [this]
  unfold HN.key
  omega
theorem lt_whole (h : HN) : h.lt (whole h.n) = false := by
  rw [← Bool.not_eq_true, lt_iff]
  rintro ⟨hv, _, hk⟩
  obtain ⟨h1, h2, h3, h4⟩ := (valid_iff h).1 hv
  have := rank_rng h3
  rw [whole_key] at hk
  unfold HN.key at hk
  omega
theorem lt_next {h : HN} (hv : h.valid = true) (hn : h.n < 9999) : h.lt (whole (h.n + 1)) = true := by
  obtain ⟨h1, h2, h3, h4⟩ := (valid_iff h).1 hv
  have := rank_rng h3
  have := place_lt (h.num, h.den)
  refine (lt_iff _ _).2 ⟨hv, whole_valid (by omega) (by omega), ?_⟩
  rw [whole_key]
  unfold HN.key
  omega
theorem place_one : ∀ r : Nat, r < 8 → 0 ≤ place (1, 2 + (r : Int)) := by decide +kernel
def partOf (n : Int) (r : Nat) : HN := ⟨n, [], 1, 2 + ((r % 8 : Nat) : Int)⟩
theorem part_valid {h : HN} (hv : h.valid = true) (r : Nat) : (partOf h.n r).valid = true := by
  obtain ⟨h1, h2, h3, h4⟩ := (valid_iff h).1 hv
  exact (valid_iff _).2 ⟨h1, h2, rfl, place_one (r % 8) (by omega)⟩
theorem part_lt {h : HN} (hv : h.valid = true) (hl : h.l ≠ []) (r : Nat) : (partOf h.n r).lt h = true := by
  obtain ⟨h1, h2, h3, h4⟩ := (valid_iff h).1 hv
  refine (lt_iff _ _).2 ⟨part_valid hv r, hv, ?_⟩
  have e := rank_nil h3
  have := rank_rng h3
  have := place_lt (1, 2 + ((r % 8 : Nat) : Int))
  have hne : rank h.l ≠ 0 := fun h => hl (e.1 h)
  unfold HN.key partOf
  simp only [rank0]
  omega
/-! room -/
theorem room1 {a : HN} (ha : a.valid = true) (hp : place (a.num, a.den) = 0) (hn : a.n < 9999) : ∃ x, between a (whole (a.n + 1)) = some x ∧ x.n = a.n ∧ x.valid = true ∧ a.lt x = true := by
  obtain ⟨h1, h2, h3, h4⟩ := (valid_iff a).1 ha
  have hb := whole_valid (n := a.n + 1) (by omega) (by omega)
  have ra := rank_rng h3
  cases h : between a (whole (a.n + 1)) with
  | none =>
    exfalso
    have hx : HN.valid ⟨a.n, a.l, 1, 9⟩ = true := (valid_iff _).2 ⟨h1, h2, h3, by show 0 ≤ place (1, 9); rw [p19]; omega⟩
    have hk : HN.key ⟨a.n, a.l, 1, 9⟩ = (a.n * 27 + rank a.l) * 28 + 1 := by unfold HN.key; simp only [p19]
    refine between_none ha hb h ⟨a.n, a.l, 1, 9⟩ ((lt_iff _ _).2 ⟨ha, hx, ?_⟩) ((lt_iff _ _).2 ⟨hx, hb, ?_⟩)
    · rw [hk]; unfold HN.key; omega
    · rw [hk, whole_key]; omega
  | some x =>
    obtain ⟨f1, f2, f3, _⟩ := between_some ha hb h
    refine ⟨x, rfl, ?_, f1, f2⟩
    obtain ⟨_, _, k1⟩ := (lt_iff _ _).1 f2
    obtain ⟨_, _, k2⟩ := (lt_iff _ _).1 f3
    obtain ⟨x1, x2, x3, x4⟩ := (valid_iff x).1 f1
    have rx := rank_rng x3
    have px := place_lt (x.num, x.den)
    rw [whole_key] at k2
    unfold HN.key at k1 k2
    omega
theorem room2 {a : HN} (ha : a.valid = true) {far : Int} (h1 : a.n + 2 ≤ far) (h2 : far ≤ 9999) : between a (whole far) = some (whole (a.n + 1)) := by
  obtain ⟨a1, a2, a3, a4⟩ := (valid_iff a).1 ha
  have : (g0 a).lt (whole far) = true := by
    refine (lt_iff _ _).2 ⟨whole_valid (by omega) (by omega), whole_valid (by omega) h2, ?_⟩
    show (whole (a.n + 1)).key < _
    rw [whole_key, whole_key]
    omega
  unfold between
  rw [if_pos this]; rfl
def HN.odd (h : HN) : Bool := h.valid && decide (h.n % 2 = 1)
/-! order -/
theorem sgn_swap (x y : Int) : sgn x y = -(sgn y x) := by unfold sgn; (repeat' split) <;> omega
theorem sgn_rng (x y : Int) : -1 ≤ sgn x y ∧ sgn x y ≤ 1 ∧ (sgn x y = 0 ↔ x = y) ∧ (sgn x y < 0 ↔ x < y) := by unfold sgn; (repeat' split) <;> omega
/-- what Compare returns -/
def cmpV (a b : HN) : Int := if a.valid && b.valid then a.cmp b else 0
def cmpE (a b : HN) : Int := if a.valid && b.valid then 0 else 1
theorem cmpV_key {a b : HN} (ha : a.valid = true) (hb : b.valid = true) : cmpV a b = sgn a.key b.key ∧ cmpE a b = 0 := by
  unfold cmpV cmpE
  rw [ha, hb]
  exact ⟨cmp_key ha hb, rfl⟩
theorem cmp_lt (a b : HN) : (decide (cmpE a b = 0) && decide (cmpV a b < 0)) = a.lt b := by
  unfold cmpE cmpV HN.lt
  cases ha : a.valid <;> cases hb : b.valid <;> simp
  rw [cmp_key ha hb]
  exact (sgn_rng _ _).2.2.2
theorem lt_trans' {a b c : HN} (h1 : a.lt b = true) (h2 : b.lt c = true) : a.lt c = true := by
  rw [lt_iff] at *
  exact ⟨h1.1, h2.2.1, by omega⟩
end Go.Proofs.YtabphhclnboknaaDoor
