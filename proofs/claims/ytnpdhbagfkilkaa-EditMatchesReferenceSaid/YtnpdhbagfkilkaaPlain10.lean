/- The plain side: the laws on Best and Check, on the distance. -/
import Derived.Test.YtnpdhbagfkilkaaPlain9
set_option linter.unusedVariables false
set_option linter.unusedSimpArgs false
namespace Go.Proofs.Ytnpdhbagfkilkaa

/-- one list of kinds is less than another one -/
def beforeL : List Int → List Int → Bool
  | a :: l, b :: m => if a ≠ b then decide (a < b) else beforeL l m
  | [], b => decide (0 < b.length)
  | _ :: _, [] => false

namespace Wt
theorem checkF_G {W : Wt} (hW : W.valid = true) {x y : List UInt8} (hx : x.length ≤ 120) (hy : y.length ≤ 120) : ∀ (n i j : Nat) (sum : Int), rem x y i j ≤ n → i ≤ x.length → j ≤ y.length → checkF W x y (G W x y i j) i j sum = some (sum + D W x y i j)
  | n, i, j, sum, hn, hi, hj => by
    by_cases hne : i < x.length ∨ j < y.length
    · match n with
      | 0 => unfold rem at hn; omega
      | n + 1 =>
      obtain ⟨h6, h1, hg, _⟩ := firstK_spec hW hx hy hi hj hne
      have hf := (stp_fits hW hi hj h6).resolve_left (by simp [goodK] at hg; omega)
      obtain ⟨f1, f2, f3, f4, f5, f6⟩ := hf
      simp only [goodK, Bool.and_eq_true, decide_eq_true_eq] at hg
      rw [G_rec hW hx hy hi hj hne, checkF, if_neg (by omega), if_neg (by simp only [Int.toNat_natCast]; omega)]
      simp only [Int.toNat_natCast]
      rw [checkF_G hW hx hy n _ _ _ (by unfold rem at *; omega) (by omega) (by omega), Option.some.injEq]
      omega
    · obtain rfl : i = x.length := by omega
      obtain rfl : j = y.length := by omega
      rw [G_end hne, checkF, if_neg hne, D_end hW hx hy, Int.add_zero]

theorem checkF_least {W : Wt} (hW : W.valid = true) {x y : List UInt8} (hx : x.length ≤ 120) (hy : y.length ≤ 120) : ∀ (l : List Int) (i j : Nat) (sum m : Int), i ≤ x.length → j ≤ y.length → checkF W x y l i j sum = some m →
    sum + D W x y i j ≤ m ∧ (m = sum + D W x y i j → beforeL l (G W x y i j) = false)
  | [], i, j, sum, m, hi, hj, h => by
    by_cases hne : i < x.length ∨ j < y.length
    · rw [checkF, if_pos hne] at h; cases h
    · rw [checkF, if_neg hne] at h
      injection h with h
      obtain rfl : i = x.length := by omega
      obtain rfl : j = y.length := by omega
      rw [D_end hW hx hy, G_end hne]
      exact ⟨by omega, fun _ => rfl⟩
  | k :: l, i, j, sum, m, hi, hj, h => by
    rw [checkF] at h
    by_cases hk : k < 1 ∨ 5 < k
    · rw [if_pos hk] at h; cases h
    · rw [if_neg hk] at h
      have h6 : k.toNat < 6 := by omega
      by_cases h0 : (stp W x y i j k.toNat).1 < 0
      · rw [if_pos h0] at h; cases h
      · rw [if_neg h0] at h
        have hf := (stp_fits hW hi hj h6).resolve_left h0
        obtain ⟨f1, f2, f3, f4, f5, f6⟩ := hf
        have hd := D_le hW hx hy hi hj (stp_mem (W := W) (x := x) (y := y) (i := i) (j := j) h6) (by omega)
        obtain ⟨g1, g2⟩ := checkF_least hW hx hy l _ _ _ m (by omega) (by omega) h
        refine ⟨by omega, fun he => ?_⟩
        have hne : i < x.length ∨ j < y.length := by omega
        obtain ⟨_, _, _, hmin⟩ := firstK_spec hW hx hy hi hj hne
        have hgood : goodK W x y i j k.toNat = true := by
          simp only [goodK, Bool.and_eq_true, decide_eq_true_eq]
          omega
        rw [G_rec hW hx hy hi hj hne, beforeL]
        have hle : firstK W x y i j ≤ k.toNat := by
          rcases Nat.lt_or_ge k.toNat (firstK W x y i j) with h1 | h1
          · rw [hmin _ h1] at hgood; cases hgood
          · exact h1
        by_cases hkf : k = (firstK W x y i j : Int)
        · rw [if_neg (by omega)]
          have hkt : k.toNat = firstK W x y i j := by omega
          rw [hkt] at g2 g1 hd
          exact g2 (by omega)
        · rw [if_pos hkf]
          simp; omega
end Wt

theorem best_check {W : Wt} {x y : List UInt8} (h : ok3 W x y = true) : Wt.check W x y (bestL W x y) = some (dist W x y) := by
  have h' := h
  simp only [ok3, Bool.and_eq_true] at h'
  unfold Wt.check bestL dist
  rw [if_pos h, if_pos h, if_pos h, Wt.checkF_G h'.1.1 (okText_len h'.1.2) (okText_len h'.2) _ 0 0 0 (Nat.le_refl _) (by omega) (by omega), Int.zero_add]
theorem check_least {W : Wt} {x y : List UInt8} (h : ok3 W x y = true) {l : List Int} {m : Int} (hc : Wt.check W x y l = some m) : dist W x y ≤ m ∧ (m = dist W x y → beforeL l (bestL W x y) = false) := by
  have h' := h
  simp only [ok3, Bool.and_eq_true] at h'
  unfold Wt.check at hc
  rw [if_pos h] at hc
  have := Wt.checkF_least h'.1.1 (okText_len h'.1.2) (okText_len h'.2) l 0 0 0 m (by omega) (by omega) hc
  unfold bestL dist
  rw [if_pos h, if_pos h]
  simpa using this

/-! the other direction -/
theorem back_back (W : Wt) : W.back.back = W := rfl
theorem back_valid (W : Wt) : W.back.valid = W.valid := by
  rw [Bool.eq_iff_iff]
  simp only [Wt.valid, Bool.and_eq_true]
  constructor
  · rintro ⟨⟨⟨⟨⟨⟨a, b⟩, c⟩, d⟩, e⟩, f⟩, g⟩; exact ⟨⟨⟨⟨⟨⟨b, a⟩, c⟩, d⟩, e⟩, f⟩, g⟩
  · rintro ⟨⟨⟨⟨⟨⟨a, b⟩, c⟩, d⟩, e⟩, f⟩, g⟩; exact ⟨⟨⟨⟨⟨⟨b, a⟩, c⟩, d⟩, e⟩, f⟩, g⟩
theorem back_ok3 (W : Wt) (x y : List UInt8) : ok3 W.back y x = ok3 W x y := by
  unfold ok3
  rw [back_valid, Bool.and_assoc, Bool.and_assoc, Bool.and_comm (okText y)]
theorem back_dist (W : Wt) (x y : List UInt8) : dist W.back y x = dist W x y := by
  by_cases h : ok3 W x y = true
  · have h' : ok3 W.back y x = true := by rw [back_ok3]; exact h
    exact Wt.dist_eq h' (Wt.dist_al h).symm fun d hd => Wt.dist_min h (by have := hd.symm; rwa [back_back] at this)
  · have h' : ok3 W.back y x = false := by rw [back_ok3]; simpa using h
    simp only [Bool.not_eq_true] at h
    simp [dist, h, h']
theorem ok3_same {W : Wt} {x y : List UInt8} (h : ok3 W x y = true) : ok3 W x x = true := by
  simp only [ok3, Bool.and_eq_true] at h ⊢
  exact ⟨h.1, h.1.2⟩
theorem ok3_valid {W : Wt} {x y : List UInt8} (h : ok3 W x y = true) : W.valid = true := by
  simp only [ok3, Bool.and_eq_true] at h; exact h.1.1
theorem dist_lo (W : Wt) (x y : List UInt8) : 0 ≤ dist W x y := by
  by_cases h : ok3 W x y = true
  · exact (Wt.dist_al h).lo (ok3_valid h)
  · simp only [Bool.not_eq_true] at h; simp [dist, h]
theorem dist_hi {W : Wt} {x y : List UInt8} (h : ok3 W x y = true) : dist W x y ≤ W.del * x.length + W.ins * y.length := by
  have := Wt.Al.app (Wt.Al.dels W x) (Wt.Al.inss W y)
  simp only [List.append_nil, List.nil_append] at this
  exact Wt.dist_min h this
theorem dist_refl (W : Wt) (x : List UInt8) : dist W x x = 0 := by
  by_cases h : ok3 W x x = true
  · have h1 := Wt.dist_min h (Wt.Al.refl W x)
    have h2 := dist_lo W x x
    omega
  · simp only [Bool.not_eq_true] at h; simp [dist, h]
/-! parts -/
theorem okText_app {x y : List UInt8} (hx : okText x = true) (hy : okText y = true) (h : x.length + y.length ≤ 120) : okText (x ++ y) = true := by
  simp only [okText, Bool.and_eq_true, decide_eq_true_eq] at hx hy ⊢
  refine ⟨?_, by simp; omega⟩
  rw [List.all_append, hx.1, hy.1]; rfl
theorem ok3_parts {W : Wt} {a b x y : List UInt8} (h1 : ok3 W a x = true) (h2 : ok3 W b y = true) (ha : a.length + b.length ≤ 120) (hx : x.length + y.length ≤ 120) : ok3 W (a ++ b) (x ++ y) = true := by
  simp only [ok3, Bool.and_eq_true] at h1 h2 ⊢
  exact ⟨⟨h1.1.1, okText_app h1.1.2 h2.1.2 ha⟩, okText_app h1.2 h2.2 hx⟩
theorem dist_parts {W : Wt} {a b x y : List UInt8} (h1 : ok3 W a x = true) (h2 : ok3 W b y = true) (ha : a.length + b.length ≤ 120) (hx : x.length + y.length ≤ 120) : dist W (a ++ b) (x ++ y) ≤ dist W a x + dist W b y :=
  Wt.dist_min (ok3_parts h1 h2 ha hx) ((Wt.dist_al h1).app (Wt.dist_al h2))
end Go.Proofs.Ytnpdhbagfkilkaa
