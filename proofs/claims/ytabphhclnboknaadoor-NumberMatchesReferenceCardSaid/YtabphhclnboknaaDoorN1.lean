/- The plain side of layer 22: house numbers, their order by one key. No program in sight. -/
set_option linter.unusedVariables false
set_option linter.unusedSimpArgs false
namespace Go.Proofs.YtabphhclnboknaaDoor

/-- a house number -/
structure HN where
  n : Int
  l : List UInt8
  num : Int
  den : Int
deriving DecidableEq

def partL : List (Int × Int) := [(0, 0), (1, 9), (1, 8), (1, 7), (1, 6), (1, 5), (2, 9), (1, 4), (2, 7), (1, 3), (3, 8), (2, 5), (3, 7), (4, 9), (1, 2), (5, 9), (4, 7), (3, 5), (5, 8), (2, 3), (5, 7), (3, 4), (7, 9), (4, 5), (5, 6), (6, 7), (7, 8), (8, 9)]
/-- the place of a fraction -/
def place (p : Int × Int) : Int := match partL.findIdx? (· == p) with | some i => i | none => -1
theorem place_lt (p : Int × Int) : -1 ≤ place p ∧ place p < 28 := by
  unfold place
  cases h : partL.findIdx? (· == p) with
  | none => simp
  | some i =>
    have := (List.findIdx?_eq_some_iff_getElem.1 h).1
    have e : partL.length = 28 := rfl
    simp; omega
theorem place_some {p : Int × Int} (h : 0 ≤ place p) : partL[(place p).toNat]? = some p := by
  unfold place at h ⊢
  cases hf : partL.findIdx? (· == p) with
  | none => rw [hf] at h; simp at h
  | some i =>
    obtain ⟨h1, h2, _⟩ := List.findIdx?_eq_some_iff_getElem.1 hf
    simp only [Int.toNat_natCast]
    rw [List.getElem?_eq_getElem h1]
    simpa using h2
theorem place_inj {p q : Int × Int} (h : 0 ≤ place p) (e : place p = place q) : p = q := by
  have h1 := place_some h
  have h2 := place_some (p := q) (by omega)
  rw [e] at h1
  rw [h1] at h2
  exact Option.some.inj h2
theorem place_nth : ∀ i : Nat, i < 28 → place (partL.getD i (0, 0)) = i := by decide +kernel

def letterB (l : List UInt8) : Bool := l.isEmpty || (decide (l.length = 1) && (decide (97 ≤ (l.headD 0).toNat) && decide ((l.headD 0).toNat ≤ 122)))
def HN.valid (h : HN) : Bool := decide (1 ≤ h.n) && decide (h.n ≤ 9999) && letterB h.l && decide (0 ≤ place (h.num, h.den))
/-- the letter's rank -/
def rank (l : List UInt8) : Int := match l with | [] => 0 | c :: _ => (c.toNat : Int) - 96
theorem letterB_iff (l : List UInt8) : letterB l = true ↔ l = [] ∨ ∃ c : UInt8, l = [c] ∧ 97 ≤ c.toNat ∧ c.toNat ≤ 122 := by
  unfold letterB
  match l with
  | [] => simp
  | [c] => simp
  | a :: b :: r => simp
theorem rank_rng {l : List UInt8} (h : letterB l = true) : 0 ≤ rank l ∧ rank l ≤ 26 := by
  rcases (letterB_iff l).1 h with rfl | ⟨c, rfl, h1, h2⟩
  · simp [rank]
  · simp [rank]; omega
theorem rank_inj {l m : List UInt8} (h : letterB l = true) (h' : letterB m = true) (e : rank l = rank m) : l = m := by
  rcases (letterB_iff l).1 h with rfl | ⟨c, rfl, h1, h2⟩ <;> rcases (letterB_iff m).1 h' with rfl | ⟨d, rfl, h3, h4⟩
  · rfl
  · simp [rank] at e; omega
  · simp [rank] at e; omega
  · simp [rank] at e
    have : c = d := UInt8.toNat_inj.1 (by omega)
    rw [this]
/-- the key: numbers are ordered by it -/
def HN.key (h : HN) : Int := (h.n * 27 + rank h.l) * 28 + place (h.num, h.den)
theorem valid_iff (h : HN) : h.valid = true ↔ 1 ≤ h.n ∧ h.n ≤ 9999 ∧ letterB h.l = true ∧ 0 ≤ place (h.num, h.den) := by
  unfold HN.valid
  simp only [Bool.and_eq_true, decide_eq_true_eq, and_assoc]
theorem key_inj {a b : HN} (ha : a.valid = true) (hb : b.valid = true) (e : a.key = b.key) : a = b := by
  obtain ⟨a1, a2, a3, a4⟩ := (valid_iff a).1 ha
  obtain ⟨b1, b2, b3, b4⟩ := (valid_iff b).1 hb
  have ra := rank_rng a3
  have rb := rank_rng b3
  have pa := place_lt (a.num, a.den)
  have pb := place_lt (b.num, b.den)
  unfold HN.key at e
  have e1 : a.n = b.n := by omega
  have e2 : rank a.l = rank b.l := by omega
  have e3 : place (a.num, a.den) = place (b.num, b.den) := by omega
  have e4 := place_inj a4 e3
  have e5 := rank_inj a3 b3 e2
  simp only [Prod.mk.injEq] at e4
  cases a; cases b
  simp_all
def sgn (x y : Int) : Int := if x < y then -1 else if y < x then 1 else 0
/-- the first that is not 0 -/
def fst3 (x y z : Int) : Int := if x ≠ 0 then x else if y ≠ 0 then y else if z ≠ 0 then z else 0
/-- what Compare computes of valid numbers -/
def HN.cmp (a b : HN) : Int := fst3 (sgn a.n b.n) (sgn (rank a.l) (rank b.l)) (sgn (place (a.num, a.den)) (place (b.num, b.den)))
theorem cmp_key {a b : HN} (ha : a.valid = true) (hb : b.valid = true) : a.cmp b = sgn a.key b.key := by
  obtain ⟨a1, a2, a3, a4⟩ := (valid_iff a).1 ha
  obtain ⟨b1, b2, b3, b4⟩ := (valid_iff b).1 hb
  have ra := rank_rng a3
  have rb := rank_rng b3
  have pa := place_lt (a.num, a.den)
  have pb := place_lt (b.num, b.den)
  unfold HN.cmp fst3 sgn HN.key
  generalize place (a.num, a.den) = x at *
  generalize place (b.num, b.den) = y at *
  generalize rank a.l = u at *
  generalize rank b.l = v at *
  (repeat' split) <;> omega
def HN.lt (a b : HN) : Bool := a.valid && b.valid && decide (a.key < b.key)
end Go.Proofs.YtabphhclnboknaaDoor
