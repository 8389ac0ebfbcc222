/- The plain side: greater weights. -/
import Derived.Test.YtnpdhbagfkilkaaPlain11
set_option linter.unusedVariables false
set_option linter.unusedSimpArgs false
namespace Go.Proofs.Ytnpdhbagfkilkaa
namespace Wt
theorem Al.more {W V : Wt} (h1 : W.ins ≤ V.ins) (h2 : W.del ≤ V.del) (h3 : W.swp ≤ V.swp) (h4 : ∀ a b, W.cc a b ≤ V.cc a b) {x y : List UInt8} {c : Int} (h : Al V x y c) : ∃ d, d ≤ c ∧ Al W x y d := by
  induction h with
  | nil => exact ⟨0, Int.le_refl _, Al.nil⟩
  | same a _ ih => obtain ⟨d, hd, h⟩ := ih; exact ⟨d, hd, Al.same a h⟩
  | chg a b hab _ ih => obtain ⟨d, hd, h⟩ := ih; exact ⟨_, by have := h4 a b; omega, Al.chg a b hab h⟩
  | ins b _ ih => obtain ⟨d, hd, h⟩ := ih; exact ⟨_, by omega, Al.ins b h⟩
  | del a _ ih => obtain ⟨d, hd, h⟩ := ih; exact ⟨_, by omega, Al.del a h⟩
  | swp a b hab _ ih => obtain ⟨d, hd, h⟩ := ih; exact ⟨_, by omega, Al.swp a b hab h⟩
theorem dist_more {W V : Wt} {x y : List UInt8} (h : ok3 W x y = true) (h' : ok3 V x y = true) (h1 : W.ins ≤ V.ins) (h2 : W.del ≤ V.del) (h3 : W.swp ≤ V.swp) (h4 : ∀ a b, W.cc a b ≤ V.cc a b) : dist W x y ≤ dist V x y := by
  obtain ⟨d, hd, ha⟩ := (dist_al h').more h1 h2 h3 h4
  have := dist_min h ha
  omega
theorem cc_chg {W V : Wt} (hn : V.near = W.near) (hc : W.chg ≤ V.chg) (a b : UInt8) : W.cc a b ≤ V.cc a b := by
  unfold cc
  rw [hn]
  cases look W.near a.toNat b.toNat with
  | none => exact hc
  | some c => exact Int.le_refl _
theorem same_pr {l : List (Int × Int × Int)} (h : (l.map pr).Pairwise (· ≠ ·)) {n m : Int × Int × Int} (hn : n ∈ l) (hm : m ∈ l) (e : pr n = pr m) : n = m := by
  obtain ⟨i, hi, rfl⟩ := List.getElem_of_mem hn
  obtain ⟨j, hj, rfl⟩ := List.getElem_of_mem hm
  rw [List.pairwise_iff_getElem] at h
  rcases Nat.lt_trichotomy i j with h1 | h1 | h1
  · exact absurd ((List.getElem_map (h := by simpa using hi) pr).trans (e.trans (List.getElem_map (h := by simpa using hj) pr).symm)) (h i j (by simpa using hi) (by simpa using hj) h1)
  · subst h1; rfl
  · exact absurd ((List.getElem_map (h := by simpa using hj) pr).trans (e.symm.trans (List.getElem_map (h := by simpa using hi) pr).symm)) (h j i (by simpa using hj) (by simpa using hi) h1)
def fitsN (a b : Int) (n : Int × Int × Int) : Bool := (n.1 == a && n.2.1 == b) || (n.1 == b && n.2.1 == a)
theorem fitsN_pr {W : Wt} (hW : W.valid = true) {a b : Int} {n m : Int × Int × Int} (hn : n ∈ W.near) (hm : m ∈ W.near) (h1 : fitsN a b n = true) (h2 : fitsN a b m = true) : n = m := by
  refine same_pr (valid_apart hW) hn hm ?_
  have v1 := valid_near hW n hn
  have v2 := valid_near hW m hm
  simp only [fitsN, Bool.or_eq_true, Bool.and_eq_true, beq_iff_eq] at h1 h2
  unfold pr
  ext <;> simp only <;> omega
theorem look_of {W : Wt} (hW : W.valid = true) {a b : Int} {n : Int × Int × Int} (hn : n ∈ W.near) (h : fitsN a b n = true) : look W.near a b = some n.2.2 := by
  unfold look
  cases hf : W.near.find? (fun n => (n.1 == a && n.2.1 == b) || (n.1 == b && n.2.1 == a)) with
  | none => rw [List.find?_eq_none] at hf; exact absurd h (hf n hn)
  | some m =>
    have h1 := List.mem_of_find?_eq_some hf
    have h2 := List.find?_some hf
    rw [fitsN_pr hW hn h1 h h2]; rfl
/-- without an element of Near -/
def less (W : Wt) (k : Nat) : Wt := { W with near := W.near.take k ++ W.near.drop (k + 1) }
theorem cc_less {W : Wt} (hW : W.valid = true) (k : Nat) (a b : UInt8) : W.cc a b ≤ (W.less k).cc a b := by
  unfold cc
  show _ ≤ (look (W.near.take k ++ W.near.drop (k + 1)) a.toNat b.toNat).getD W.chg
  cases hl : look (W.near.take k ++ W.near.drop (k + 1)) a.toNat b.toNat with
  | none =>
    simp only [Option.getD_none]
    cases hk : look W.near a.toNat b.toNat with
    | none => exact Int.le_refl _
    | some c =>
      unfold look at hk
      simp only [Option.map_eq_some_iff] at hk
      obtain ⟨n, hn, rfl⟩ := hk
      have := valid_near hW n (List.mem_of_find?_eq_some hn)
      simp; omega
  | some c =>
    unfold look at hl
    simp only [Option.map_eq_some_iff] at hl
    obtain ⟨n, hn, rfl⟩ := hl
    have h1 := List.mem_of_find?_eq_some hn
    have h2 := List.find?_some hn
    have h3 : n ∈ W.near := by
      rcases List.mem_append.1 h1 with h | h
      · exact List.mem_of_mem_take h
      · exact List.mem_of_mem_drop h
    rw [look_of hW h3 h2]
    exact Int.le_refl _
/-- with a number added to one of the weights, or without an element of Near -/
def turned (W : Wt) (q b : Nat) : Wt :=
  if q = 0 then { W with ins := W.ins + b } else if q = 1 then { W with del := W.del + b } else if q = 2 then { W with chg := W.chg + b } else if q = 3 then { W with swp := W.swp + b }
  else if 0 < W.near.length then W.less (b % W.near.length) else W
end Wt
theorem turned_dist {W : Wt} {x y : List UInt8} (q b : Nat) (h : ok3 W x y = true) (h' : ok3 (W.turned q b) x y = true) : dist W x y ≤ dist (W.turned q b) x y := by
  have hW := ok3_valid h
  unfold Wt.turned at *
  split at h'
  · rename_i e; rw [if_pos e]; exact Wt.dist_more h h' (by simp only; omega) (Int.le_refl _) (Int.le_refl _) (Wt.cc_chg rfl (Int.le_refl _))
  · rename_i e; rw [if_neg e]
    split at h'
    · rename_i e; rw [if_pos e]; exact Wt.dist_more h h' (Int.le_refl _) (by simp only; omega) (Int.le_refl _) (Wt.cc_chg rfl (Int.le_refl _))
    · rename_i e; rw [if_neg e]
      split at h'
      · rename_i e; rw [if_pos e]; exact Wt.dist_more h h' (Int.le_refl _) (Int.le_refl _) (Int.le_refl _) (Wt.cc_chg rfl (by simp only; omega))
      · rename_i e; rw [if_neg e]
        split at h'
        · rename_i e; rw [if_pos e]; exact Wt.dist_more h h' (Int.le_refl _) (Int.le_refl _) (by simp only; omega) (Wt.cc_chg rfl (Int.le_refl _))
        · rename_i e; rw [if_neg e]
          split at h'
          · rename_i e; rw [if_pos e]; exact Wt.dist_more h h' (Int.le_refl _) (Int.le_refl _) (Int.le_refl _) (Wt.cc_less hW _)
          · rename_i e; rw [if_neg e]; exact Int.le_refl _
theorem ok3_other {W V : Wt} {x y : List UInt8} (h : ok3 W x y = true) : ok3 V x y = V.valid := by
  simp only [ok3, Bool.and_eq_true] at h
  simp [ok3, h.1.2, h.2]
end Go.Proofs.Ytnpdhbagfkilkaa
