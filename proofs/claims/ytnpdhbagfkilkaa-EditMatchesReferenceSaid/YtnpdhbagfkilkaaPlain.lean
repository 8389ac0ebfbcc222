/- The plain side of layer 18: weights, which are valid, distances. No program in sight. -/
set_option linter.unusedVariables false
set_option linter.unusedSimpArgs false
namespace Go.Proofs.Ytnpdhbagfkilkaa

def okByte (c : UInt8) : Bool := 32 ≤ c && c ≤ 126
def okText (l : List UInt8) : Bool := l.all okByte && decide (l.length ≤ 120)

structure Wt where
  ins : Int
  del : Int
  chg : Int
  swp : Int
  near : List (Int × Int × Int)

namespace Wt
def num (W : Wt) (j : Nat) : Int := match j with | 0 => W.ins | 1 => W.del | 2 => W.chg | _ => W.swp
def numOk (n : Int) : Bool := decide (0 ≤ n) && decide (n ≤ 1000)
def nearOk (W : Wt) (n : Int × Int × Int) : Bool := decide (32 ≤ n.1) && decide (n.2.1 ≤ 126) && decide (n.1 < n.2.1) && decide (0 ≤ n.2.2) && decide (n.2.2 ≤ W.chg)
def pr (n : Int × Int × Int) : Int × Int := (n.1, n.2.1)
def apart : List (Int × Int) → Bool
  | [] => true
  | x :: l => !l.contains x && apart l
def valid (W : Wt) : Bool := numOk W.ins && numOk W.del && numOk W.chg && numOk W.swp && W.near.all W.nearOk && apart (W.near.map pr) && decide (W.near.length ≤ 200)

theorem valid_num {W : Wt} (h : W.valid = true) : 0 ≤ W.ins ∧ W.ins ≤ 1000 ∧ 0 ≤ W.del ∧ W.del ≤ 1000 ∧ 0 ≤ W.chg ∧ W.chg ≤ 1000 ∧ 0 ≤ W.swp ∧ W.swp ≤ 1000 := by
  simp only [valid, numOk, Bool.and_eq_true, decide_eq_true_eq] at h
  omega
theorem valid_near {W : Wt} (h : W.valid = true) : ∀ n ∈ W.near, 32 ≤ n.1 ∧ n.2.1 ≤ 126 ∧ n.1 < n.2.1 ∧ 0 ≤ n.2.2 ∧ n.2.2 ≤ W.chg := by
  simp only [valid, Bool.and_eq_true, List.all_eq_true, nearOk, decide_eq_true_eq] at h
  intro n hn
  have := h.1.1.2 n hn
  omega
theorem valid_len {W : Wt} (h : W.valid = true) : W.near.length ≤ 200 := by
  simp only [valid, Bool.and_eq_true, decide_eq_true_eq] at h
  exact h.2
theorem apart_iff (l : List (Int × Int)) : apart l = true ↔ l.Pairwise (· ≠ ·) := by
  induction l with
  | nil => simp [apart]
  | cons x l ih =>
    simp only [apart, Bool.and_eq_true, List.pairwise_cons, ih]
    constructor
    · rintro ⟨h1, h2⟩
      refine ⟨fun y hy e => ?_, h2⟩
      subst e
      simp at h1
      exact h1 hy
    · rintro ⟨h1, h2⟩
      refine ⟨?_, h2⟩
      simp
      exact fun hx => h1 x hx rfl
theorem valid_apart {W : Wt} (h : W.valid = true) : (W.near.map pr).Pairwise (· ≠ ·) := by
  simp only [valid, Bool.and_eq_true] at h
  exact (apart_iff _).1 h.1.2

theorem bad_num {W : Wt} {j : Nat} (hj : j < 4) (h : W.num j < 0 ∨ 1000 < W.num j) : W.valid = false := by
  rw [← Bool.not_eq_true]
  intro hv
  have := valid_num hv
  match j, hj with
  | 0, _ | 1, _ | 2, _ | 3, _ => simp only [num] at h; omega
theorem bad_near {W : Wt} {k : Nat} (hk : k < W.near.length) (h : W.nearOk W.near[k] = false) : W.valid = false := by
  rw [← Bool.not_eq_true]
  intro hv
  simp only [valid, Bool.and_eq_true, List.all_eq_true] at hv
  have := hv.1.1.2 _ (List.getElem_mem hk)
  rw [h] at this
  cases this
theorem bad_seen {W : Wt} {k : Nat} (hk : k < W.near.length) (h : pr W.near[k] ∈ (W.near.take k).map pr) : W.valid = false := by
  rw [← Bool.not_eq_true]
  intro hv
  have ha := valid_apart hv
  obtain ⟨n, hn, e⟩ := List.mem_map.1 h
  obtain ⟨i, hi, rfl⟩ := List.mem_take_iff_getElem.1 hn
  rw [List.pairwise_iff_getElem] at ha
  have := ha i k (by simp; omega) (by simpa using hk) (by omega)
  apply this
  simp only [List.getElem_map]
  exact e
theorem good_all {W : Wt} (hn : ∀ j, j < 4 → 0 ≤ W.num j ∧ W.num j ≤ 1000) (h : ∀ n ∈ W.near, W.nearOk n = true) (ha : (W.near.map pr).Pairwise (· ≠ ·)) : W.valid = decide (W.near.length ≤ 200) := by
  have h0 := hn 0 (by omega)
  have h1 := hn 1 (by omega)
  have h2 := hn 2 (by omega)
  have h3 := hn 3 (by omega)
  simp only [num] at h0 h1 h2 h3
  unfold valid
  rw [(apart_iff _).2 ha, List.all_eq_true.2 h]
  simp [numOk, h0, h1, h2, h3]
/-- the cost of changing one byte into a different one -/
def look (l : List (Int × Int × Int)) (a b : Int) : Option Int := (l.find? fun n => (n.1 == a && n.2.1 == b) || (n.1 == b && n.2.1 == a)).map (·.2.2)
/-- byte k as a number -/
def at_ (x : List UInt8) (k : Nat) : Int := ((x[k]?.getD 0).toNat : Int)
abbrev no : Int × Int × Int := (-1, 0, 0)
def same (x y : List UInt8) (i j : Nat) : Int × Int × Int := if i < x.length ∧ j < y.length ∧ at_ x i = at_ y j then (0, 1, 1) else no
def change (W : Wt) (x y : List UInt8) (i j : Nat) : Int × Int × Int := if i < x.length ∧ j < y.length ∧ at_ x i ≠ at_ y j then ((look W.near (at_ x i) (at_ y j)).getD W.chg, 1, 1) else no
def insert (W : Wt) (y : List UInt8) (j : Nat) : Int × Int × Int := if j < y.length then (W.ins, 0, 1) else no
def delete (W : Wt) (x : List UInt8) (i : Nat) : Int × Int × Int := if i < x.length then (W.del, 1, 0) else no
def swap (W : Wt) (x y : List UInt8) (i j : Nat) : Int × Int × Int :=
  if i + 1 < x.length ∧ j + 1 < y.length ∧ at_ x i ≠ at_ y j ∧ at_ x i = at_ y (j + 1) ∧ at_ x (i + 1) = at_ y j then (W.swp, 2, 2) else no
/-- the six steps at places -/
def steps (W : Wt) (x y : List UInt8) (i j : Nat) : List (Int × Int × Int) := [no, same x y i j, change W x y i j, insert W y j, delete W x i, swap W x y i j]
end Wt
end Go.Proofs.Ytnpdhbagfkilkaa
