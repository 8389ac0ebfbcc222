/- Plain: the examples of the chapter. -/
import Derived.Test.YtabphhclnboknaaDoorW10
set_option linter.unusedVariables false
set_option linter.unusedSimpArgs false
namespace Go.Proofs.YtabphhclnboknaaDoor
open Go

theorem ex0_v : HN.valid ⟨12, [], 1, 2⟩ = true := by decide +kernel
theorem ex0_t : textP ⟨12, [], 1, 2⟩ = [49, 50, 32, 49, 47, 50] := by decide +kernel
theorem ex0 : outP [49, 50, 32, 49, 47, 50] = ⟨12, [], 1, 2⟩ ∧ errP [49, 50, 32, 49, 47, 50] = 0 := by
  have h := parse_text ex0_v
  rw [ex0_t] at h
  unfold outP errP; rw [h]; exact ⟨rfl, rfl⟩
theorem ex1_v : HN.valid ⟨12, [97], 0, 0⟩ = true := by decide +kernel
theorem ex1_t : textP ⟨12, [97], 0, 0⟩ = [49, 50, 97] := by decide +kernel
theorem ex1 : outP [49, 50, 97] = ⟨12, [97], 0, 0⟩ ∧ errP [49, 50, 97] = 0 := by
  have h := parse_text ex1_v
  rw [ex1_t] at h
  unfold outP errP; rw [h]; exact ⟨rfl, rfl⟩
theorem ex2_v : HN.valid ⟨12, [97], 1, 3⟩ = true := by decide +kernel
theorem ex2_t : textP ⟨12, [97], 1, 3⟩ = [49, 50, 97, 32, 49, 47, 51] := by decide +kernel
theorem ex2 : outP [49, 50, 97, 32, 49, 47, 51] = ⟨12, [97], 1, 3⟩ ∧ errP [49, 50, 97, 32, 49, 47, 51] = 0 := by
  have h := parse_text ex2_v
  rw [ex2_t] at h
  unfold outP errP; rw [h]; exact ⟨rfl, rfl⟩
theorem ex3_v : HN.valid ⟨13, [], 0, 0⟩ = true := by decide +kernel
theorem ex3_t : textP ⟨13, [], 0, 0⟩ = [49, 51] := by decide +kernel
theorem ex3 : outP [49, 51] = ⟨13, [], 0, 0⟩ ∧ errP [49, 51] = 0 := by
  have h := parse_text ex3_v
  rw [ex3_t] at h
  unfold outP errP; rw [h]; exact ⟨rfl, rfl⟩
theorem ex4_v : HN.valid ⟨12, [], 0, 0⟩ = true := by decide +kernel
theorem ex4_t : textP ⟨12, [], 0, 0⟩ = [49, 50] := by decide +kernel
theorem ex4 : outP [49, 50] = ⟨12, [], 0, 0⟩ ∧ errP [49, 50] = 0 := by
  have h := parse_text ex4_v
  rw [ex4_t] at h
  unfold outP errP; rw [h]; exact ⟨rfl, rfl⟩
theorem ex5_v : HN.valid ⟨13, [97], 0, 0⟩ = true := by decide +kernel
theorem ex5_t : textP ⟨13, [97], 0, 0⟩ = [49, 51, 97] := by decide +kernel
theorem ex5 : outP [49, 51, 97] = ⟨13, [97], 0, 0⟩ ∧ errP [49, 51, 97] = 0 := by
  have h := parse_text ex5_v
  rw [ex5_t] at h
  unfold outP errP; rw [h]; exact ⟨rfl, rfl⟩
theorem ex6_v : HN.valid ⟨15, [], 0, 0⟩ = true := by decide +kernel
theorem ex6_t : textP ⟨15, [], 0, 0⟩ = [49, 53] := by decide +kernel
theorem ex6 : outP [49, 53] = ⟨15, [], 0, 0⟩ ∧ errP [49, 53] = 0 := by
  have h := parse_text ex6_v
  rw [ex6_t] at h
  unfold outP errP; rw [h]; exact ⟨rfl, rfl⟩
theorem ex7_v : HN.valid ⟨12, [122], 0, 0⟩ = true := by decide +kernel
theorem ex7_t : textP ⟨12, [122], 0, 0⟩ = [49, 50, 122] := by decide +kernel
theorem ex7 : outP [49, 50, 122] = ⟨12, [122], 0, 0⟩ ∧ errP [49, 50, 122] = 0 := by
  have h := parse_text ex7_v
  rw [ex7_t] at h
  unfold outP errP; rw [h]; exact ⟨rfl, rfl⟩
theorem ex8_v : HN.valid ⟨12, [], 8, 9⟩ = true := by decide +kernel
theorem ex8_t : textP ⟨12, [], 8, 9⟩ = [49, 50, 32, 56, 47, 57] := by decide +kernel
theorem ex8 : outP [49, 50, 32, 56, 47, 57] = ⟨12, [], 8, 9⟩ ∧ errP [49, 50, 32, 56, 47, 57] = 0 := by
  have h := parse_text ex8_v
  rw [ex8_t] at h
  unfold outP errP; rw [h]; exact ⟨rfl, rfl⟩
theorem bad0 : errP [48, 49, 50] = 5 := by decide +kernel
theorem bad1 : errP [49, 50, 32, 50, 47, 52] = 5 := by decide +kernel
theorem bad2 : errP [49, 50, 65] = 5 := by decide +kernel
end Go.Proofs.YtabphhclnboknaaDoor
