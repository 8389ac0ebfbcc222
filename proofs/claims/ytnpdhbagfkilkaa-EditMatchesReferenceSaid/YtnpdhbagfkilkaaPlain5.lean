/- The plain side: what Check and Best compute. -/
import Derived.Test.YtnpdhbagfkilkaaPlain4
set_option linter.unusedVariables false
set_option linter.unusedSimpArgs false
namespace Go.Proofs.Ytnpdhbagfkilkaa
namespace Wt

def stp (W : Wt) (x y : List UInt8) (i j k : Nat) : Int × Int × Int := (W.steps x y i j)[k]?.getD no
theorem stp_get {W : Wt} {x y : List UInt8} {i j k : Nat} (h : k < 6) : (W.steps x y i j)[k]? = some (stp W x y i j k) := by
  unfold stp
  rw [List.getElem?_eq_getElem (show k < (W.steps x y i j).length from h)]; rfl
theorem stp_mem {W : Wt} {x y : List UInt8} {i j k : Nat} (h : k < 6) : stp W x y i j k ∈ W.steps x y i j := List.mem_of_getElem? (stp_get h)
theorem stp_fits {W : Wt} (hW : W.valid = true) {x y : List UInt8} {i j k : Nat} (hi : i ≤ x.length) (hj : j ≤ y.length) (h : k < 6) : fits x y i j (stp W x y i j k) := steps_fit hW hi hj _ (stp_mem h)

/-- Check's sum, or none -/
def checkF (W : Wt) (x y : List UInt8) : List Int → Nat → Nat → Int → Option Int
  | [], i, j, sum => if i < x.length ∨ j < y.length then none else some sum
  | k :: l, i, j, sum =>
    if k < 1 ∨ 5 < k then none
    else if (stp W x y i j k.toNat).1 < 0 then none
    else checkF W x y l (i + (stp W x y i j k.toNat).2.1.toNat) (j + (stp W x y i j k.toNat).2.2.toNat) (sum + (stp W x y i j k.toNat).1)
def check (W : Wt) (x y : List UInt8) (l : List Int) : Option Int := if ok3 W x y then checkF W x y l 0 0 0 else none

/-! Best -/
def goodK (W : Wt) (x y : List UInt8) (i j k : Nat) : Bool :=
  decide (0 ≤ (stp W x y i j k).1) && decide ((stp W x y i j k).1 + D W x y (i + (stp W x y i j k).2.1.toNat) (j + (stp W x y i j k).2.2.toNat) = D W x y i j)
def firstK (W : Wt) (x y : List UInt8) (i j : Nat) : Nat := ((List.range 6).find? (goodK W x y i j)).getD 6
def bestF (W : Wt) (x y : List UInt8) : Nat → Nat → Nat → List Int
  | 0, _, _ => []
  | n + 1, i, j => if i < x.length ∨ j < y.length then (firstK W x y i j : Int) :: bestF W x y n (i + (stp W x y i j (firstK W x y i j)).2.1.toNat) (j + (stp W x y i j (firstK W x y i j)).2.2.toNat) else []
def G (W : Wt) (x y : List UInt8) (i j : Nat) : List Int := bestF W x y (rem x y i j) i j

theorem firstK_spec {W : Wt} (hW : W.valid = true) {x y : List UInt8} (hx : x.length ≤ 120) (hy : y.length ≤ 120) {i j : Nat} (hi : i ≤ x.length) (hj : j ≤ y.length) (hne : i < x.length ∨ j < y.length) :
    firstK W x y i j < 6 ∧ 1 ≤ firstK W x y i j ∧ goodK W x y i j (firstK W x y i j) = true ∧ ∀ k, k < firstK W x y i j → goodK W x y i j k = false := by
  obtain ⟨s, hs, h0, e⟩ := D_some hW hx hy hi hj hne
  obtain ⟨k, hk⟩ := List.getElem?_of_mem hs
  have hk6 : k < 6 := (List.getElem?_eq_some_iff.1 hk).1
  have hsk : stp W x y i j k = s := by unfold stp; rw [hk]; rfl
  have hgood : goodK W x y i j k = true := by
    unfold goodK
    rw [hsk]
    simp [h0, e]
  unfold firstK
  cases hf : (List.range 6).find? (goodK W x y i j) with
  | none =>
    rw [List.find?_eq_none] at hf
    exact absurd hgood (hf k (by simp [hk6]))
  | some q =>
    have hq := List.mem_of_find?_eq_some hf
    have hq6 : q < 6 := by simpa using hq
    have hgq := List.find?_some hf
    refine ⟨hq6, ?_, hgq, fun k' hk' => ?_⟩
    · rcases Nat.eq_zero_or_pos q with rfl | h
      · simp [goodK, stp, steps] at hgq
      · exact h
    · simp only [Option.getD_some] at hk'
      rw [List.find?_range_eq_some] at hf
      simpa using hf.2.2 k' hk'

theorem bestF_stable {W : Wt} (hW : W.valid = true) {x y : List UInt8} (hx : x.length ≤ 120) (hy : y.length ≤ 120) : ∀ (n m i j : Nat), i ≤ x.length → j ≤ y.length → rem x y i j ≤ n → rem x y i j ≤ m → bestF W x y n i j = bestF W x y m i j
  | 0, 0, _, _, _, _, _, _ => rfl
  | 0, m + 1, i, j, hi, hj, h, _ => by
    have : ¬ (i < x.length ∨ j < y.length) := by unfold rem at h; omega
    simp [bestF, this]
  | n + 1, 0, i, j, hi, hj, _, h => by
    have : ¬ (i < x.length ∨ j < y.length) := by unfold rem at h; omega
    simp [bestF, this]
  | n + 1, m + 1, i, j, hi, hj, hn, hm => by
    by_cases hne : i < x.length ∨ j < y.length
    · obtain ⟨h6, h1, hg, _⟩ := firstK_spec hW hx hy hi hj hne
      have hf := (stp_fits hW hi hj h6).resolve_left (by simp [goodK] at hg; omega)
      obtain ⟨f1, f2, f3, f4, f5, f6⟩ := hf
      simp only [bestF, hne, if_true]
      rw [bestF_stable hW hx hy n m _ _ (by omega) (by omega) (by unfold rem at *; omega) (by unfold rem at *; omega)]
    · simp [bestF, hne]
theorem G_end {W : Wt} {x y : List UInt8} {i j : Nat} (h : ¬ (i < x.length ∨ j < y.length)) : G W x y i j = [] := by
  unfold G
  cases hr : rem x y i j with
  | zero => rfl
  | succ n => simp [bestF, h]
theorem G_rec {W : Wt} (hW : W.valid = true) {x y : List UInt8} (hx : x.length ≤ 120) (hy : y.length ≤ 120) {i j : Nat} (hi : i ≤ x.length) (hj : j ≤ y.length) (hne : i < x.length ∨ j < y.length) :
    G W x y i j = (firstK W x y i j : Int) :: G W x y (i + (stp W x y i j (firstK W x y i j)).2.1.toNat) (j + (stp W x y i j (firstK W x y i j)).2.2.toNat) := by
  obtain ⟨h6, h1, hg, _⟩ := firstK_spec hW hx hy hi hj hne
  have hf := (stp_fits hW hi hj h6).resolve_left (by simp [goodK] at hg; omega)
  obtain ⟨f1, f2, f3, f4, f5, f6⟩ := hf
  have hr : 0 < rem x y i j := by unfold rem; omega
  unfold G
  obtain ⟨n, hn⟩ : ∃ n, rem x y i j = n + 1 := ⟨rem x y i j - 1, by omega⟩
  rw [hn]
  simp only [bestF, hne, if_true]
  rw [bestF_stable hW hx hy n (rem x y (i + (stp W x y i j (firstK W x y i j)).2.1.toNat) (j + (stp W x y i j (firstK W x y i j)).2.2.toNat)) _ _ (by omega) (by omega) (by unfold rem at *; omega) (Nat.le_refl _)]
end Wt
def bestL (W : Wt) (x y : List UInt8) : List Int := if ok3 W x y then W.G x y 0 0 else []
end Go.Proofs.Ytnpdhbagfkilkaa
