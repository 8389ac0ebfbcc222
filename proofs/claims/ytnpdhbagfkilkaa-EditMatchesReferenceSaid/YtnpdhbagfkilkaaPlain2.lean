/- The plain side: distances, out of a table of the distances of what is left. -/
import Derived.Test.YtnpdhbagfkilkaaPlain
set_option linter.unusedVariables false
set_option linter.unusedSimpArgs false
namespace Go.Proofs.Ytnpdhbagfkilkaa
namespace Wt

def better (b : Int) (c : Int) : Int := if b < 0 ∨ c < b then c else b
def bestStep (T : Nat → Nat → Int) (i j : Nat) (b : Int) (s : Int × Int × Int) : Int := if s.1 < 0 then b else better b (s.1 + T (i + s.2.1.toNat) (j + s.2.2.toNat))
def best (T : Nat → Nat → Int) (i j : Nat) (l : List (Int × Int × Int)) : Int := l.foldl (bestStep T i j) (-1)

/-- what each possible step keeps: it uses one byte or more, never beyond the ends, and costs at most 1000 -/
def fits (x y : List UInt8) (i j : Nat) (s : Int × Int × Int) : Prop :=
  s.1 < 0 ∨ (s.1 ≤ 1000 ∧ 0 ≤ s.2.1 ∧ 0 ≤ s.2.2 ∧ 0 < s.2.1 + s.2.2 ∧ i + s.2.1 ≤ x.length ∧ j + s.2.2 ≤ y.length)
theorem look_le {W : Wt} (h : W.valid = true) {a b c : Int} (hc : look W.near a b = some c) : 0 ≤ c ∧ c ≤ 1000 := by
  unfold look at hc
  simp only [Option.map_eq_some_iff] at hc
  obtain ⟨n, hn, rfl⟩ := hc
  have h1 := valid_near h n (List.mem_of_find?_eq_some hn)
  have h2 := valid_num h
  omega
theorem steps_fit {W : Wt} (h : W.valid = true) {x y : List UInt8} {i j : Nat} (hi : i ≤ x.length) (hj : j ≤ y.length) : ∀ s ∈ W.steps x y i j, fits x y i j s := by
  have hn := valid_num h
  intro s hs
  simp only [steps, List.mem_cons, List.not_mem_nil, or_false] at hs
  unfold fits
  rcases hs with rfl | rfl | rfl | rfl | rfl | rfl
  · exact .inl (by simp)
  · unfold same
    split
    · right; simp; omega
    · left; simp
  · unfold change
    split
    · right
      rename_i hc
      have : 0 ≤ (look W.near (at_ x i) (at_ y j)).getD W.chg ∧ (look W.near (at_ x i) (at_ y j)).getD W.chg ≤ 1000 := by
        cases hl : look W.near (at_ x i) (at_ y j) with
        | none => simp; omega
        | some c => simpa using look_le h hl
      simp; omega
    · left; simp
  · unfold insert
    split
    · right; simp; omega
    · left; simp
  · unfold delete
    split
    · right; simp; omega
    · left; simp
  · unfold swap
    split
    · right; simp; omega
    · left; simp
/-- D is the table of the distances: each place out of the places behind it -/
structure IsDist (W : Wt) (x y : List UInt8) (D : Nat → Nat → Int) : Prop where
  rec_ : ∀ (i j : Nat) (T : Nat → Nat → Int), i ≤ x.length → j ≤ y.length → (∀ i' j', i' ≤ x.length → j' ≤ y.length → i ≤ i' → j ≤ j' → i + j < i' + j' → T i' j' = D i' j') → max (best T i j (W.steps x y i j)) 0 = D i j
  lo : ∀ i j, 0 ≤ D i j
  hi : ∀ i j, i ≤ x.length → j ≤ y.length → D i j ≤ 1000000
end Wt
end Go.Proofs.Ytnpdhbagfkilkaa
