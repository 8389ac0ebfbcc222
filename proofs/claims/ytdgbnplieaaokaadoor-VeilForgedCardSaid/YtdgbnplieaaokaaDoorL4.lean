/- Walk of the law VeilForged. -/
import Derived.Test.YtdgbnplieaaokaaDoorV8
import Derived.Test.YtdgbnplieaaokaaDoorLC
import Derived.Test.YtdgbnplieaaokaaDoorL3
import Derived.Deep.RegionWith
import Derived.Deep.DrawnRows
import Derived.Test.YtdgbnplieaaokaaDoorLoose
set_option linter.unusedVariables false
set_option linter.unusedSimpArgs false
namespace Go.Proofs.YtdgbnplieaaokaaDoor
open Go.RowKit

theorem forge_one {key salt : List UInt8} {x y : Int} (h : canL salt x y = true) (mark : List UInt8) :
    (openE key ((lockP key salt x y).take 26 ++ mark) == 0) = (mark == (lockP key salt x y).drop 26) := by
  obtain ⟨a, b, c, d⟩ := lock_parts (key := key) h
  have hl : ((lockP key salt x y).take 26).length = 26 := by simp; omega
  have p3 : markV ((lockP key salt x y).take 26 ++ mark) = mark := by
    unfold markV
    rw [List.drop_append_of_le_length (by omega), List.drop_of_length_le (by omega), List.nil_append]
  have p1 : saltV ((lockP key salt x y).take 26 ++ mark) = salt := by
    refine Eq.trans ?_ a
    unfold saltV
    rw [List.take_append_of_le_length (by omega), List.take_take]
    rfl
  have p2 : hidV ((lockP key salt x y).take 26 ++ mark) = hidP key salt x y := by
    refine Eq.trans ?_ b
    unfold hidV
    rw [List.drop_append_of_le_length (by omega), List.take_append_of_le_length (by simp; omega), List.drop_take, List.take_take]
    rfl
  by_cases hm : mark = (lockP key salt x y).drop 26
  · have : (lockP key salt x y).take 26 ++ mark = lockP key salt x y := by rw [hm, List.take_append_drop]
    rw [this, (open_lock_key h).2.2, beq_iff_eq.2 hm]
    rfl
  · have hb : goodV key ((lockP key salt x y).take 26 ++ mark) = false := by
      cases hg : goodV key ((lockP key salt x y).take 26 ++ mark)
      · rfl
      · unfold goodV at hg
        simp only [Bool.and_eq_true, decide_eq_true_eq] at hg
        have h1 := hg.2.1
        rw [p1, p2, p3] at h1
        exact absurd (h1.trans c.symm) hm
    rw [(open_bad hb).2.2, beq_eq_false_iff_ne.2 hm]
    split <;> rfl
theorem forge_two {key salt : List UInt8} {x y u v : Int} (h : canL salt x y = true) (h2 : canL salt u v = true) :
    (openE key ((lockP key salt u v).take 26 ++ (lockP key salt x y).drop 26) = 15 ∧ ¬ (x = u ∧ y = v)) ∨
    (openE key ((lockP key salt u v).take 26 ++ (lockP key salt x y).drop 26) = 0 ∧ openX key ((lockP key salt u v).take 26 ++ (lockP key salt x y).drop 26) = u ∧ openY key ((lockP key salt u v).take 26 ++ (lockP key salt x y).drop 26) = v ∧
      listD [markT, key, salt, hidP key salt x y] = listD [markT, key, salt, hidP key salt u v]) := by
  obtain ⟨a, b, c, d⟩ := lock_parts (key := key) h
  obtain ⟨a2, b2, c2, d2⟩ := lock_parts (key := key) h2
  obtain ⟨g0, gx, gy⟩ := lock_open (key := key) h2
  have hl : ((lockP key salt u v).take 26).length = 26 := by simp; omega
  have hv := lock_isV (key := key) h
  have hv2 := lock_isV (key := key) h2
  have ht : ∀ m : List UInt8, markV ((lockP key salt u v).take 26 ++ m) = m := fun m => by
    unfold markV
    rw [List.drop_append_of_le_length (by omega), List.drop_of_length_le (by omega), List.nil_append]
  have p1 : ∀ m : List UInt8, saltV ((lockP key salt u v).take 26 ++ m) = saltV (lockP key salt u v) := fun m => by
    unfold saltV
    rw [List.take_append_of_le_length (by omega), List.take_take]
    rfl
  have p2 : ∀ m : List UInt8, hidV ((lockP key salt u v).take 26 ++ m) = hidV (lockP key salt u v) := fun m => by
    unfold hidV
    rw [List.drop_append_of_le_length (by omega), List.take_append_of_le_length (by simp; omega), List.drop_take, List.take_take]
    rfl
  have px : ∀ m : List UInt8, xV key ((lockP key salt u v).take 26 ++ m) = xV key (lockP key salt u v) := fun m => by unfold xV shownV; rw [p1, p2]
  have py : ∀ m : List UInt8, yV key ((lockP key salt u v).take 26 ++ m) = yV key (lockP key salt u v) := fun m => by unfold yV shownV; rw [p1, p2]
  have hiv : isV ((lockP key salt u v).take 26 ++ (lockP key salt x y).drop 26) = true := by
    rw [isV_iff] at hv hv2 ⊢
    refine ⟨by simp; omega, ?_, ?_, ?_⟩
    · have := p1 ((lockP key salt x y).drop 26); unfold saltV at this; rw [this]; exact hv2.2.1
    · have := ht ((lockP key salt x y).drop 26); unfold markV at this; rw [this]; exact hv.2.2.1
    · have := p2 ((lockP key salt x y).drop 26); unfold hidV at this; rw [this]; exact hv2.2.2.2
  cases hg : goodV key ((lockP key salt u v).take 26 ++ (lockP key salt x y).drop 26)
  · left
    refine ⟨by rw [(open_bad hg).2.2, hiv]; rfl, fun ⟨e1, e2⟩ => ?_⟩
    subst e1 e2
    rw [List.take_append_drop, g0] at hg
    cases hg
  · right
    obtain ⟨o1, o2, o3⟩ := open_good hg
    refine ⟨o3, by rw [o1, px, gx], by rw [o2, py, gy], ?_⟩
    unfold goodV at hg
    simp only [Bool.and_eq_true, decide_eq_true_eq] at hg
    have h1 := hg.2.1
    rw [ht, p1, p2, a2, b2] at h1
    exact c.symm.trans h1
end Go.Proofs.YtdgbnplieaaokaaDoor
