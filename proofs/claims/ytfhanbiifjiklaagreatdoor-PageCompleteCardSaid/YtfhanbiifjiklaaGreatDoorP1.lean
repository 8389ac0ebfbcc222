/- The plain laws of trees. No program in sight. -/
import Derived.Test.YtfhanbiifjiklaaGreatDoorDig1
set_option linter.unusedVariables false
set_option linter.unusedSimpArgs false
namespace Go.Proofs.YtfhanbiifjiklaaGreatDoor
open Go

def leafT : List UInt8 := [108, 101, 97, 102]
def nodeT : List UInt8 := [110, 111, 100, 101]
def emptyT : List UInt8 := [101, 109, 112, 116, 121]
/-! trees -/
def leafD (d : List UInt8) : List UInt8 := listD [leafT, d]
def nodeD (a b : List UInt8) : List UInt8 := listD [nodeT, a, b]
def halfF : Nat → Nat → Nat → Nat
  | 0, k, _ => k
  | f + 1, k, n => if k * 2 < n then halfF f (k * 2) n else k
def halfN (n : Nat) : Nat := halfF n 1 n
theorem halfF_lt : ∀ (f k n : Nat), 1 ≤ k → k < n → 1 ≤ halfF f k n ∧ halfF f k n < n
  | 0, k, n, h1, h2 => ⟨h1, h2⟩
  | f + 1, k, n, h1, h2 => by
    unfold halfF
    split
    · rename_i h; exact halfF_lt f (k * 2) n (by omega) h
    · exact ⟨h1, h2⟩
theorem half_lt {n : Nat} (h : 2 ≤ n) : 1 ≤ halfN n ∧ halfN n < n := halfF_lt n 1 n (Nat.le_refl _) (by omega)
def sumT : Nat → List (List UInt8) → List UInt8
  | 0, _ => []
  | f + 1, l => if l.length = 1 then l.headD [] else nodeD (sumT f (l.take (halfN l.length))) (sumT f (l.drop (halfN l.length)))
theorem sumT_one (f : Nat) {l : List (List UInt8)} (h : l.length = 1) : sumT (f + 1) l = l.headD [] := by unfold sumT; rw [if_pos h]
theorem sumT_two (f : Nat) {l : List (List UInt8)} (h : l.length ≠ 1) : sumT (f + 1) l = nodeD (sumT f (l.take (halfN l.length))) (sumT f (l.drop (halfN l.length))) := by
  conv => lhs; unfold sumT
  rw [if_neg h]
theorem sumT_more : ∀ (f g : Nat) (l : List (List UInt8)), 1 ≤ l.length → l.length ≤ f → l.length ≤ g → sumT f l = sumT g l := by
  intro f
  induction f with
  | zero => intro g l h1 h2 _; omega
  | succ f ih =>
    intro g l h1 h2 h3
    obtain ⟨g', rfl⟩ : ∃ g', g = g' + 1 := ⟨g - 1, by omega⟩
    by_cases h : l.length = 1
    · rw [sumT_one f h, sumT_one g' h]
    · obtain ⟨a, b⟩ := half_lt (n := l.length) (by omega)
      rw [sumT_two f h, sumT_two g' h]
      generalize halfN l.length = k at *
      rw [ih g' (l.take k) (by rw [List.length_take]; omega) (by rw [List.length_take]; omega) (by rw [List.length_take]; omega), ih g' (l.drop k) (by rw [List.length_drop]; omega) (by rw [List.length_drop]; omega) (by rw [List.length_drop]; omega)]
def totalT (l : List (List UInt8)) : List UInt8 := if l.length = 0 then listD [emptyT] else sumT l.length l
def properT (l : List (List UInt8)) : Bool := l.all isD
def rootV (l : List (List UInt8)) : List UInt8 := if properT l then totalT l else []
def rootE (l : List (List UInt8)) : Int := if properT l then 0 else 1
theorem leaf_isD (d : List UInt8) : isD (leafD d) = true := by
  unfold leafD
  exact listD_isD _
end Go.Proofs.YtfhanbiifjiklaaGreatDoor
