/- The plain laws of trees: paths. No program in sight. -/
import Derived.Test.YtfhanbiifjiklaaGreatDoorP1
set_option linter.unusedVariables false
set_option linter.unusedSimpArgs false
namespace Go.Proofs.YtfhanbiifjiklaaGreatDoor
open Go

/-- the digests beside the way to element i, the uppermost first -/
def pathF : Nat → List (List UInt8) → Nat → List (List UInt8)
  | 0, _, _ => []
  | f + 1, l, i => if l.length ≤ 1 then [] else if i < halfN l.length then totalT (l.drop (halfN l.length)) :: pathF f (l.take (halfN l.length)) i else totalT (l.take (halfN l.length)) :: pathF f (l.drop (halfN l.length)) (i - halfN l.length)
def pathV (l : List (List UInt8)) (i : Nat) : List (List UInt8) := (pathF l.length l i).reverse
/-- what a proof's digests make of a leaf: the root, the digests that are left; none if one was missing -/
def upF : Nat → Nat → Nat → List UInt8 → List (List UInt8) → Option (List UInt8 × List (List UInt8))
  | 0, _, _, _, _ => none
  | f + 1, n, i, leaf, st => if n = 1 then some (leaf, st) else match st with
    | [] => none
    | side :: st => if i < halfN n then (upF f (halfN n) i leaf st).map fun r => (nodeD r.1 side, r.2) else (upF f (n - halfN n) (i - halfN n) leaf st).map fun r => (nodeD side r.1, r.2)
theorem total_isD (l : List (List UInt8)) (h : properT l = true) : isD (totalT l) = true := by
  unfold totalT
  split
  · exact listD_isD _
  · rename_i h0
    have : ∀ (f : Nat) (l : List (List UInt8)), 1 ≤ l.length → l.length ≤ f → properT l = true → isD (sumT f l) = true := by
      intro f
      induction f with
      | zero => intro l h1 h2; omega
      | succ f ih =>
        intro l h1 h2 hp
        by_cases h : l.length = 1
        · rw [sumT_one f h]
          match l, h with
          | [x], _ => unfold properT at hp; simpa using hp
        · rw [sumT_two f h]
          unfold nodeD
          exact listD_isD _
    exact this _ l (by omega) (Nat.le_refl _) h
theorem total_sum {l : List (List UInt8)} (h : 1 ≤ l.length) {f : Nat} (hf : l.length ≤ f) : totalT l = sumT f l := by
  unfold totalT
  rw [if_neg (by omega)]
  exact sumT_more _ _ l h (Nat.le_refl _) hf
theorem total_two {l : List (List UInt8)} (h : 2 ≤ l.length) : totalT l = nodeD (totalT (l.take (halfN l.length))) (totalT (l.drop (halfN l.length))) := by
  obtain ⟨a, b⟩ := half_lt h
  obtain ⟨f, hf⟩ : ∃ f, l.length = f + 1 := ⟨l.length - 1, by omega⟩
  rw [total_sum (by omega) (Nat.le_of_eq hf), sumT_two f (by omega)]
  rw [total_sum (l := l.take (halfN l.length)) (f := f) (by rw [List.length_take]; omega) (by rw [List.length_take]; omega), total_sum (l := l.drop (halfN l.length)) (f := f) (by rw [List.length_drop]; omega) (by rw [List.length_drop]; omega)]
theorem up_path : ∀ (f : Nat) (l : List (List UInt8)) (i : Nat) (x : List UInt8) (st : List (List UInt8)), l.length ≤ f → l[i]? = some x → upF f l.length i x (pathF f l i ++ st) = some (totalT l, st) := by
  intro f
  induction f with
  | zero =>
    intro l i x st h hx
    obtain rfl : l = [] := List.eq_nil_of_length_eq_zero (by omega)
    simp at hx
  | succ f ih =>
    intro l i x st h hx
    have hi : i < l.length := by rcases Nat.lt_or_ge i l.length with h' | h'; exact h'; rw [List.getElem?_eq_none h'] at hx; cases hx
    by_cases h1 : l.length = 1
    · match l, h1 with
      | [y], _ =>
        obtain rfl : i = 0 := by simpa using hi
        simp at hx
        subst hx
        have : pathF (f + 1) [y] 0 = [] := by unfold pathF; rfl
        rw [this]
        unfold upF
        rfl
    · obtain ⟨a, b⟩ := half_lt (n := l.length) (by omega)
      have ht := total_two (l := l) (by omega)
      have e : pathF (f + 1) l i = if i < halfN l.length then totalT (l.drop (halfN l.length)) :: pathF f (l.take (halfN l.length)) i else totalT (l.take (halfN l.length)) :: pathF f (l.drop (halfN l.length)) (i - halfN l.length) := by
        conv => lhs; unfold pathF
        rw [if_neg (by omega)]
      rw [e]
      have hlt : (l.take (halfN l.length)).length = halfN l.length := by rw [List.length_take]; omega
      have hld : (l.drop (halfN l.length)).length = l.length - halfN l.length := by rw [List.length_drop]
      have i1 := ih (l.take (halfN l.length)) i x st (by omega)
      have i2 := ih (l.drop (halfN l.length)) (i - halfN l.length) x st (by omega)
      rw [hlt] at i1
      rw [hld] at i2
      generalize hk : halfN l.length = k at *
      by_cases hik : i < k
      · rw [if_pos hik, List.cons_append]
        unfold upF
        rw [if_neg h1]
        simp only [hk]
        rw [if_pos hik, i1 (by rw [List.getElem?_take_of_lt hik]; exact hx), ht]
        rfl
      · rw [if_neg hik, List.cons_append]
        unfold upF
        rw [if_neg h1]
        simp only [hk]
        rw [if_neg hik, i2 (by rw [List.getElem?_drop, show k + (i - k) = i by omega]; exact hx), ht]
        rfl
theorem path_isD : ∀ (f : Nat) (l : List (List UInt8)) (i : Nat), properT l = true → ∀ d ∈ pathF f l i, isD d = true := by
  intro f
  induction f with
  | zero => intro l i _ d h; simp [pathF] at h
  | succ f ih =>
    intro l i hp d h
    have hpt : properT (l.take (halfN l.length)) = true := by unfold properT at hp ⊢; rw [List.all_eq_true] at hp ⊢; exact fun x hx => hp x (List.mem_of_mem_take hx)
    have hpd : properT (l.drop (halfN l.length)) = true := by unfold properT at hp ⊢; rw [List.all_eq_true] at hp ⊢; exact fun x hx => hp x (List.mem_of_mem_drop hx)
    unfold pathF at h
    split at h
    · simp at h
    · split at h
      · rcases List.mem_cons.1 h with h | h
        · rw [h]; exact total_isD _ hpd
        · exact ih _ _ hpt d h
      · rcases List.mem_cons.1 h with h | h
        · rw [h]; exact total_isD _ hpt
        · exact ih _ _ hpd d h
end Go.Proofs.YtfhanbiifjiklaaGreatDoor
