/- The plain side: the laws on Ahead. -/
import Derived.Test.YtnpdhbagfkilkaaPlain10
set_option linter.unusedVariables false
set_option linter.unusedSimpArgs false
namespace Go.Proofs.Ytnpdhbagfkilkaa
namespace Wt

theorem foldl_min_le : ∀ (l : List Int) (b : Int), l.foldl min b ≤ b ∧ (∀ z ∈ l, l.foldl min b ≤ z) ∧ (l.foldl min b = b ∨ l.foldl min b ∈ l)
  | [], b => ⟨Int.le_refl _, by simp, .inl rfl⟩
  | a :: l, b => by
    simp only [List.foldl_cons]
    obtain ⟨h1, h2, h3⟩ := foldl_min_le l (min b a)
    refine ⟨by omega, ?_, ?_⟩
    · intro z hz
      rcases List.mem_cons.1 hz with rfl | hz
      · omega
      · exact h2 z hz
    · rcases h3 with h3 | h3
      · rw [h3]
        by_cases hb : b ≤ a
        · exact .inl (by omega)
        · exact .inr (by rw [show min b a = a by omega]; simp)
      · exact .inr (by simp [h3])
theorem minL_spec {zs : List Int} (h : zs ≠ []) : (∀ z ∈ zs, minL zs ≤ z) ∧ minL zs ∈ zs := by
  cases zs with
  | nil => exact absurd rfl h
  | cons a l =>
    obtain ⟨h1, h2, h3⟩ := foldl_min_le (a :: l) a
    unfold minL
    simp only [List.headD_cons]
    refine ⟨h2, ?_⟩
    rcases h3 with h3 | h3
    · rw [h3]; simp
    · exact h3
theorem rowMin_le (W : Wt) (x p : List UInt8) {i : Nat} (h : i ≤ x.length) : rowMin W x p ≤ F W x p p.length i := by
  unfold rowMin
  refine (minL_spec (by simp)).1 _ ?_
  simp only [List.mem_map, List.mem_range]
  exact ⟨i, by omega, rfl⟩
theorem rowMin_at (W : Wt) (x p : List UInt8) : ∃ i, i ≤ x.length ∧ rowMin W x p = F W x p p.length i := by
  have h := (minL_spec (zs := (List.range (x.length + 1)).map fun i => F W x p p.length i) (by simp)).2
  simp only [List.mem_map, List.mem_range] at h
  obtain ⟨i, hi, e⟩ := h
  exact ⟨i, by omega, e.symm⟩
theorem afold_spec (W : Wt) (x p : List UInt8) : ∀ k, afold W x p k ≤ rowMin W x p ∧ (∀ i, i < k → over x p i = true → afold W x p k ≤ atv (F W x p (p.length - 1) i) W.swp) ∧
    (afold W x p k = rowMin W x p ∨ ∃ i, i < k ∧ over x p i = true ∧ afold W x p k = atv (F W x p (p.length - 1) i) W.swp)
  | 0 => ⟨Int.le_refl _, fun i hi => by omega, .inl rfl⟩
  | k + 1 => by
    obtain ⟨h1, h2, h3⟩ := afold_spec W x p k
    rw [afold_succ]
    by_cases ho : over x p k = true
    · rw [if_pos ho]
      refine ⟨by omega, fun i hi hov => ?_, ?_⟩
      · rcases Nat.lt_or_ge i k with h | h
        · have := h2 i h hov; omega
        · obtain rfl : i = k := by omega
          omega
      · by_cases hm : afold W x p k ≤ atv (F W x p (p.length - 1) k) W.swp
        · rw [show min (afold W x p k) (atv (F W x p (p.length - 1) k) W.swp) = afold W x p k by omega]
          rcases h3 with h3 | ⟨i, hi, h3⟩
          · exact .inl h3
          · exact .inr ⟨i, by omega, h3⟩
        · rw [show min (afold W x p k) (atv (F W x p (p.length - 1) k) W.swp) = atv (F W x p (p.length - 1) k) W.swp by omega]
          exact .inr ⟨k, by omega, ho, rfl⟩
    · rw [if_neg ho]
      refine ⟨h1, fun i hi hov => ?_, ?_⟩
      · rcases Nat.lt_or_ge i k with h | h
        · exact h2 i h hov
        · obtain rfl : i = k := by omega
          exact absurd hov ho
      · rcases h3 with h3 | ⟨i, hi, h3⟩
        · exact .inl h3
        · exact .inr ⟨i, by omega, h3⟩

theorem F_al {W : Wt} (hW : W.valid = true) {x p : List UInt8} (hx : x.length ≤ 120) (hp : p.length ≤ 120) (j i : Nat) : Al W (x.take i) (p.take j) (F W x p j i) := dl_al hW (len_take hx i) (len_take hp j)
theorem F_min {W : Wt} (hW : W.valid = true) {x p : List UInt8} (hx : x.length ≤ 120) (hp : p.length ≤ 120) {j i : Nat} {c : Int} (h : Al W (x.take i) (p.take j) c) : F W x p j i ≤ c := dl_min hW (len_take hx i) (len_take hp j) h

theorem over_iff {x p : List UInt8} {i : Nat} (h : i + 1 < x.length) (hp : 0 < p.length) : over x p i = true ↔ x[i] ≠ x[i + 1] ∧ x[i + 1] = p[p.length - 1] := by
  unfold over
  rw [at_eq (show i < x.length by omega), at_eq h, at_eq (show p.length - 1 < p.length by omega)]
  simp only [Bool.and_eq_true, bne_iff_ne, beq_iff_eq, ne_eq]
  constructor
  · rintro ⟨h1, h2⟩
    exact ⟨fun e => h1 (by rw [e]), UInt8.toNat_inj.1 (by omega)⟩
  · rintro ⟨h1, h2⟩
    exact ⟨fun e => h1 (UInt8.toNat_inj.1 (by omega)), by rw [h2]⟩

theorem aheadV_le {W : Wt} (hW : W.valid = true) {x p r : List UInt8} (hx : x.length ≤ 120) (hp : p.length ≤ 120) {c : Int} (h : Al W x (p ++ r) c) : aheadV W x p ≤ c := by
  have hn := valid_num hW
  rcases h.split p r rfl with ⟨x1, x2, c1, c2, e, h1, h2, rfl⟩ | ⟨x1, a, b, x2, p', r', c1, c2, e, ep, er, hne, h1, h2, rfl⟩
  · have hlo := h2.lo hW
    have hf : F W x p p.length x1.length ≤ c1 := F_min hW hx hp (by rw [List.take_length, show x.take x1.length = x1 by rw [e]; simp]; exact h1)
    have hr := rowMin_le W x p (i := x1.length) (by rw [e]; simp)
    unfold aheadV
    split
    · have := (afold_spec W x p (x.length - 1)).1; omega
    · omega
  · have hlo := h2.lo hW
    have hpl : p.length = p'.length + 1 := by rw [ep]; simp
    have hxl : x.length = x1.length + 2 + x2.length := by rw [e]; simp; omega
    have hf : F W x p (p.length - 1) x1.length ≤ c1 := F_min hW hx hp (by
      rw [show x.take x1.length = x1 by rw [e]; simp, show p.take (p.length - 1) = p' by rw [ep]; simp]
      exact h1)
    have hov : over x p x1.length = true := by
      rw [over_iff (by omega) (by omega)]
      subst e ep
      simp [hne]
    have := (afold_spec W x p (x.length - 1)).2.1 x1.length (by omega) hov
    unfold aheadV
    rw [if_pos (by omega)]
    unfold atv at this
    rw [if_neg (by omega)] at this
    omega

theorem take_last {p : List UInt8} (h0 : 0 < p.length) : p.take (p.length - 1) ++ [p[p.length - 1]] = p := by
  have := List.take_succ_eq_append_getElem (show p.length - 1 < p.length by omega)
  rw [show p.length - 1 + 1 = p.length by omega, List.take_length] at this
  exact this.symm
theorem aheadV_at {W : Wt} (hW : W.valid = true) {x p : List UInt8} (hx : x.length ≤ 120) (hp : p.length ≤ 120) :
    (∃ i, i ≤ x.length ∧ Al W x (p ++ x.drop i) (aheadV W x p)) ∨ (∃ i, ∃ h : i + 1 < x.length, Al W x (p ++ (x[i] :: x.drop (i + 2))) (aheadV W x p)) := by
  have hn := valid_num hW
  have row : ∃ i, i ≤ x.length ∧ Al W x (p ++ x.drop i) (rowMin W x p) := by
    obtain ⟨i, hi, e⟩ := rowMin_at W x p
    refine ⟨i, hi, ?_⟩
    have h1 := F_al hW hx hp p.length i
    rw [List.take_length] at h1
    have h2 := h1.app (Al.refl W (x.drop i))
    rw [List.take_append_drop, Int.add_zero] at h2
    rw [e]; exact h2
  unfold aheadV
  split
  · rename_i h0
    rcases (afold_spec W x p (x.length - 1)).2.2 with e | ⟨i, hi, hov, e⟩
    · rw [e]; exact .inl row
    · rw [e]
      have hi1 : i + 1 < x.length := by omega
      refine .inr ⟨i, hi1, ?_⟩
      rw [over_iff hi1 h0] at hov
      have h1 := F_al hW hx hp (p.length - 1) i
      have h2 := h1.app (Al.swp x[i] x[i + 1] hov.1 (Al.refl W (x.drop (i + 2))))
      have ex : x.take i ++ x[i] :: x[i + 1] :: x.drop (i + 2) = x := by
        rw [← List.drop_eq_getElem_cons hi1, ← List.drop_eq_getElem_cons (by omega), List.take_append_drop]
      have ep : p.take (p.length - 1) ++ x[i + 1] :: x[i] :: x.drop (i + 2) = p ++ (x[i] :: x.drop (i + 2)) := by
        have h3 := congrArg (· ++ (x[i] :: x.drop (i + 2))) (take_last h0)
        simp only [List.append_assoc, List.singleton_append] at h3
        rw [hov.2, h3]
      rw [ex, ep] at h2
      unfold atv
      rw [if_neg (by omega)]
      rw [Int.add_zero] at h2
      exact h2
  · exact .inl row
end Wt

theorem ok3_split {W : Wt} {x y : List UInt8} (h : ok3 W x y = true) : W.valid = true ∧ x.length ≤ 120 ∧ y.length ≤ 120 := by
  simp only [ok3, Bool.and_eq_true] at h
  exact ⟨h.1.1, okText_len h.1.2, okText_len h.2⟩
theorem ahead_t {W : Wt} {x p : List UInt8} (h : ok3 W x p = true) : ahead W x p = W.aheadV x p := by unfold ahead; rw [if_pos h]
/-- Ahead is at most the distance to any text with this beginning -/
theorem ahead_le {W : Wt} {x p r : List UInt8} (h : ok3 W x p = true) (h' : ok3 W x (p ++ r) = true) : ahead W x p ≤ dist W x (p ++ r) := by
  obtain ⟨h1, h2, h3⟩ := ok3_split h
  rw [ahead_t h]
  exact Wt.aheadV_le h1 h2 h3 (Wt.dist_al h')
theorem okText_drop {x : List UInt8} (h : okText x = true) (i : Nat) : okText (x.drop i) = true := by
  simp only [okText, Bool.and_eq_true, decide_eq_true_eq, List.all_eq_true] at h ⊢
  exact ⟨fun c hc => h.1 c (List.mem_of_mem_drop hc), by simp; omega⟩
/-- it is such a distance -/
theorem ahead_at {W : Wt} {x p : List UInt8} (h : ok3 W x p = true) (hl : p.length + x.length ≤ 120) :
    (∃ i, i ≤ x.length ∧ ok3 W x (p ++ x.drop i) = true ∧ dist W x (p ++ x.drop i) = ahead W x p) ∨
    (∃ i, ∃ hi : i + 1 < x.length, ok3 W x (p ++ (x[i] :: x.drop (i + 2))) = true ∧ dist W x (p ++ (x[i] :: x.drop (i + 2))) = ahead W x p) := by
  obtain ⟨h1, h2, h3⟩ := ok3_split h
  have h' := h
  simp only [ok3, Bool.and_eq_true] at h'
  rcases Wt.aheadV_at h1 h2 h3 with ⟨i, hi, ha⟩ | ⟨i, hi, ha⟩
  · have ho : ok3 W x (p ++ x.drop i) = true := by
      simp only [ok3, Bool.and_eq_true]
      exact ⟨h'.1, okText_app h'.2 (okText_drop h'.1.2 i) (by simp; omega)⟩
    refine .inl ⟨i, hi, ho, ?_⟩
    have := Wt.dist_min ho ha
    have := ahead_le h ho
    rw [ahead_t h] at *
    omega
  · have hk : okText (x[i] :: x.drop (i + 2)) = true := by
      have e := okText_drop h'.1.2 i
      have e2 := okText_drop h'.1.2 (i + 2)
      rw [List.drop_eq_getElem_cons (show i < x.length by omega)] at e
      simp only [okText, Bool.and_eq_true, decide_eq_true_eq, List.all_cons] at e e2 ⊢
      exact ⟨⟨e.1.1, e2.1⟩, by simp; omega⟩
    have ho : ok3 W x (p ++ (x[i] :: x.drop (i + 2))) = true := by
      simp only [ok3, Bool.and_eq_true]
      exact ⟨h'.1, okText_app h'.2 hk (by simp; omega)⟩
    refine .inr ⟨i, hi, ho, ?_⟩
    have := Wt.dist_min ho ha
    have := ahead_le h ho
    rw [ahead_t h] at *
    omega
theorem ahead_longer {W : Wt} {x p m : List UInt8} (h : ok3 W x p = true) (h' : ok3 W x (p ++ m) = true) : ahead W x p ≤ ahead W x (p ++ m) := by
  obtain ⟨h1, h2, h3⟩ := ok3_split h
  obtain ⟨_, _, h4⟩ := ok3_split h'
  rw [ahead_t h, ahead_t h']
  rcases Wt.aheadV_at h1 h2 h4 with ⟨i, hi, ha⟩ | ⟨i, hi, ha⟩ <;> (rw [List.append_assoc] at ha; exact Wt.aheadV_le h1 h2 h3 ha)
theorem ahead_dist {W : Wt} {x p : List UInt8} (h : ok3 W x p = true) : ahead W x p ≤ dist W x p := by
  have := ahead_le (r := []) h (by simpa using h)
  simpa using this
theorem ok3_nil {W : Wt} {x p : List UInt8} (h : ok3 W x p = true) : ok3 W x [] = true := by
  simp only [ok3, Bool.and_eq_true] at h ⊢
  exact ⟨h.1, by simp [okText]⟩
theorem ahead_nil {W : Wt} {x p : List UInt8} (h : ok3 W x p = true) : ahead W x [] = 0 := by
  have hn := ok3_nil h
  obtain ⟨h1, h2, h3⟩ := ok3_split hn
  rw [ahead_t hn]
  have e1 := Wt.aheadV_le (r := x) h1 h2 h3 (Wt.Al.refl W x)
  rcases Wt.aheadV_at h1 h2 h3 with ⟨i, hi, ha⟩ | ⟨i, hi, ha⟩ <;> (have := ha.lo h1; omega)
end Go.Proofs.Ytnpdhbagfkilkaa
