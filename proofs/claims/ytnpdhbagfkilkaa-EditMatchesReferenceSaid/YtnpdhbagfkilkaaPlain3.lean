/- The plain side: the distances exist. -/
import Derived.Test.YtnpdhbagfkilkaaPlain2
set_option linter.unusedVariables false
set_option linter.unusedSimpArgs false
namespace Go.Proofs.Ytnpdhbagfkilkaa
namespace Wt

/-- the distances of what is left, by so many rounds at most -/
def DF (W : Wt) (x y : List UInt8) : Nat → Nat → Nat → Int
  | 0, _, _ => 0
  | n + 1, i, j => max (best (DF W x y n) i j (W.steps x y i j)) 0
def rem (x y : List UInt8) (i j : Nat) : Nat := (x.length - i) + (y.length - j)
def D (W : Wt) (x y : List UInt8) (i j : Nat) : Int := DF W x y (rem x y i j + 1) i j

theorem best_congr {T T' : Nat → Nat → Int} {i j : Nat} : ∀ {l : List (Int × Int × Int)} (b : Int), (∀ s ∈ l, 0 ≤ s.1 → T (i + s.2.1.toNat) (j + s.2.2.toNat) = T' (i + s.2.1.toNat) (j + s.2.2.toNat)) →
    l.foldl (bestStep T i j) b = l.foldl (bestStep T' i j) b
  | [], _, _ => rfl
  | s :: l, b, h => by
    simp only [List.foldl_cons]
    have e : bestStep T i j b s = bestStep T' i j b s := by
      unfold bestStep
      by_cases hs : s.1 < 0
      · simp [hs]
      · rw [h s (by simp) (by omega)]
    rw [e]
    exact best_congr _ fun s' hs' => h s' (by simp [hs'])

theorem DF_stable {W : Wt} (hW : W.valid = true) {x y : List UInt8} : ∀ (n m i j : Nat), i ≤ x.length → j ≤ y.length → rem x y i j < n → rem x y i j < m → DF W x y n i j = DF W x y m i j
  | 0, _, _, _, _, _, h, _ => by omega
  | _ + 1, 0, _, _, _, _, _, h => by omega
  | n + 1, m + 1, i, j, hi, hj, hn, hm => by
    unfold DF
    have : best (DF W x y n) i j (W.steps x y i j) = best (DF W x y m) i j (W.steps x y i j) := by
      refine best_congr _ fun s hs h0 => ?_
      have hf := (steps_fit hW hi hj s hs).resolve_left (by omega)
      obtain ⟨f1, f2, f3, f4, f5, f6⟩ := hf
      exact DF_stable hW n m _ _ (by omega) (by omega) (by unfold rem at *; omega) (by unfold rem at *; omega)
    rw [this]

theorem better_lo {b c : Int} (hc : 0 ≤ c) (hb : -1 ≤ b) : -1 ≤ better b c := by unfold better; split <;> omega

theorem best_hi {T : Nat → Nat → Int} {i j : Nat} {B : Int} : ∀ {l : List (Int × Int × Int)} (b : Int), b ≤ B → (∀ s ∈ l, 0 ≤ s.1 → s.1 + T (i + s.2.1.toNat) (j + s.2.2.toNat) ≤ B) → l.foldl (bestStep T i j) b ≤ B
  | [], _, h, _ => h
  | s :: l, b, h, hs => by
    simp only [List.foldl_cons]
    refine best_hi _ ?_ fun s' hs' => hs s' (by simp [hs'])
    unfold bestStep
    by_cases h0 : s.1 < 0
    · simp [h0, h]
    · have := hs s (by simp) (by omega)
      simp only [h0, if_false, better]
      split <;> omega

theorem DF_hi {W : Wt} (hW : W.valid = true) {x y : List UInt8} : ∀ (n i j : Nat), i ≤ x.length → j ≤ y.length → DF W x y n i j ≤ 1000 * (rem x y i j : Int)
  | 0, i, j, _, _ => by unfold DF; omega
  | n + 1, i, j, hi, hj => by
    unfold DF
    have : best (DF W x y n) i j (W.steps x y i j) ≤ 1000 * (rem x y i j : Int) := by
      refine best_hi _ (by omega) fun s hs h0 => ?_
      have hf := (steps_fit hW hi hj s hs).resolve_left (by omega)
      obtain ⟨f1, f2, f3, f4, f5, f6⟩ := hf
      have := DF_hi hW (x := x) (y := y) n (i + s.2.1.toNat) (j + s.2.2.toNat) (by omega) (by omega)
      have e : (rem x y (i + s.2.1.toNat) (j + s.2.2.toNat) : Int) + 1 ≤ (rem x y i j : Int) := by unfold rem; omega
      omega
    omega

theorem isDist {W : Wt} (hW : W.valid = true) {x y : List UInt8} (hx : x.length ≤ 120) (hy : y.length ≤ 120) : IsDist W x y (D W x y) where
  rec_ i j T hi hj hT := by
    unfold D
    rw [DF]
    congr 1
    refine best_congr _ fun s hs h0 => ?_
    have hf := (steps_fit hW hi hj s hs).resolve_left (by omega)
    obtain ⟨f1, f2, f3, f4, f5, f6⟩ := hf
    rw [hT _ _ (by omega) (by omega) (by omega) (by omega) (by omega)]
    exact DF_stable hW _ _ _ _ (by omega) (by omega) (by unfold rem; omega) (by unfold rem; omega)
  lo i j := by unfold D; rw [DF]; omega
  hi i j hi hj := by
    have := DF_hi hW (rem x y i j + 1) i j hi hj
    unfold D
    have : (rem x y i j : Int) ≤ 240 := by unfold rem; omega
    omega
end Wt

def ok3 (W : Wt) (x y : List UInt8) : Bool := W.valid && okText x && okText y
theorem okText_len {l : List UInt8} (h : okText l = true) : l.length ≤ 120 := by
  simp only [okText, Bool.and_eq_true, decide_eq_true_eq] at h; exact h.2
def dist (W : Wt) (x y : List UInt8) : Int := if ok3 W x y then W.D x y 0 0 else 0
def errn (b : Bool) : Int := if b then 0 else 1
end Go.Proofs.Ytnpdhbagfkilkaa
