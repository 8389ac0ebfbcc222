/- Walk of the law's head: the examples of the chapter. -/
import Derived.Test.YtabphhclnboknaaDoorN5
set_option linter.unusedVariables false
set_option linter.unusedSimpArgs false
namespace Go.Proofs.YtabphhclnboknaaDoor
open Go.RowKit

theorem outP_bad {t : List UInt8} (h : errP t = 5) : outP t = zeroH := by
  rcases outP_cases t with ⟨_, h2, _⟩ | ⟨h2, _⟩
  · omega
  · exact h2
theorem fit_of {h : HN} (hv : letterB h.l = true) : h.fit := by
  have := letter_size hv
  unfold HN.fit maxLen; omega
set_option maxHeartbeats 4000000 in
theorem head_any (w : World) (hg : Glob w) : Calls Tryd.prog 10 #[] w fun e w' => e = .returned (.bool true) ∧ Below w.heap.size w w' := by
  have HB0 : Hid (Below w.heap.size w w) := Below.refl _ _
  have HG0 := hide hg
  clear hg
  go_enter Tryd.func10, Tryd.ntmps10
  go_wp2_with fail
  refine (Text_any ⟨12, [97], 1, 2⟩ _ (fit_of (by decide +kernel)) (by first | exact HG0.out | exact HG0.out.alloc _ | exact (HG0.out.alloc _).alloc _)).mono ?_
  rw [show HN.valid ⟨12, [97], 1, 2⟩ = true from by decide +kernel, show textP ⟨12, [97], 1, 2⟩ = [49, 50, 97, 32, 49, 47, 50] from by decide +kernel]
  (try unfold hval)
  (try unfold zeroH)
  rintro e w1 ⟨rfl, hb⟩
  have HB1 : Hid (Below w.heap.size w w1) := by first | exact HB0.out.trans (hb.mono HB0.out.size) | exact (HB0.out.alloc HB0.out.size _).trans (hb.mono (by have := HB0.out.size; simp; omega)) | exact ((HB0.out.alloc HB0.out.size _).alloc (by have := HB0.out.size; simp; omega) _).trans (hb.mono (by have := HB0.out.size; simp; omega))
  have HG1 : Hid (Glob w1) := by first | exact HG0.out.below hb (Nat.le_refl _) | exact (HG0.out.alloc _).below hb (Nat.le_refl _) | exact ((HG0.out.alloc _).alloc _).below hb (Nat.le_refl _)
  clear hb HB0 HG0
  go_wp2_with fail
  refine (Parse_any [49, 50, 32, 49, 47, 50] _ (by decide) (by first | exact HG1.out | exact HG1.out.alloc _ | exact (HG1.out.alloc _).alloc _)).mono ?_
  rw [show outP [49, 50, 32, 49, 47, 50] = ⟨12, [], 1, 2⟩ from by decide +kernel, show errP [49, 50, 32, 49, 47, 50] = 0 from by decide +kernel]
  (try unfold hval)
  (try unfold zeroH)
  rintro e w2 ⟨rfl, hb⟩
  have HB2 : Hid (Below w.heap.size w w2) := by first | exact HB1.out.trans (hb.mono HB1.out.size) | exact (HB1.out.alloc HB1.out.size _).trans (hb.mono (by have := HB1.out.size; simp; omega)) | exact ((HB1.out.alloc HB1.out.size _).alloc (by have := HB1.out.size; simp; omega) _).trans (hb.mono (by have := HB1.out.size; simp; omega))
  have HG2 : Hid (Glob w2) := by first | exact HG1.out.below hb (Nat.le_refl _) | exact (HG1.out.alloc _).below hb (Nat.le_refl _) | exact ((HG1.out.alloc _).alloc _).below hb (Nat.le_refl _)
  clear hb HB1 HG1
  go_wp2_with fail
  refine (Parse_any [48, 49, 50] _ (by decide) (by first | exact HG2.out | exact HG2.out.alloc _ | exact (HG2.out.alloc _).alloc _)).mono ?_
  rw [show outP [48, 49, 50] = zeroH from by decide +kernel, show errP [48, 49, 50] = 5 from by decide +kernel]
  (try unfold hval)
  (try unfold zeroH)
  rintro e w3 ⟨rfl, hb⟩
  have HB3 : Hid (Below w.heap.size w w3) := by first | exact HB2.out.trans (hb.mono HB2.out.size) | exact (HB2.out.alloc HB2.out.size _).trans (hb.mono (by have := HB2.out.size; simp; omega)) | exact ((HB2.out.alloc HB2.out.size _).alloc (by have := HB2.out.size; simp; omega) _).trans (hb.mono (by have := HB2.out.size; simp; omega))
  have HG3 : Hid (Glob w3) := by first | exact HG2.out.below hb (Nat.le_refl _) | exact (HG2.out.alloc _).below hb (Nat.le_refl _) | exact ((HG2.out.alloc _).alloc _).below hb (Nat.le_refl _)
  have HN3 : Hid (HBox w3 w2.heap.size ⟨12, [], 1, 2⟩) := (HBox.new w2 ⟨12, [], 1, 2⟩).below hb (by simp)
  have HL3 : Hid (w2.heap.size < w3.heap.size) := by have := hb.size; simp at this; exact this
  clear hb HB2 HG2
  go_wp2_with fail
  refine (Parse_any [49, 50, 32, 50, 47, 52] _ (by decide) (by first | exact HG3.out | exact HG3.out.alloc _ | exact (HG3.out.alloc _).alloc _)).mono ?_
  rw [show outP [49, 50, 32, 50, 47, 52] = zeroH from by decide +kernel, show errP [49, 50, 32, 50, 47, 52] = 5 from by decide +kernel]
  (try unfold hval)
  (try unfold zeroH)
  rintro e w4 ⟨rfl, hb⟩
  have HB4 : Hid (Below w.heap.size w w4) := by first | exact HB3.out.trans (hb.mono HB3.out.size) | exact (HB3.out.alloc HB3.out.size _).trans (hb.mono (by have := HB3.out.size; simp; omega)) | exact ((HB3.out.alloc HB3.out.size _).alloc (by have := HB3.out.size; simp; omega) _).trans (hb.mono (by have := HB3.out.size; simp; omega))
  have HG4 : Hid (Glob w4) := by first | exact HG3.out.below hb (Nat.le_refl _) | exact (HG3.out.alloc _).below hb (Nat.le_refl _) | exact ((HG3.out.alloc _).alloc _).below hb (Nat.le_refl _)
  have HN4 : Hid (HBox w4 w2.heap.size ⟨12, [], 1, 2⟩) := by first | exact HN3.out.below hb HL3.out | exact HBox.below (w := _) (HBox.mk (HN3.out.blk.alloc _)) hb (by have := HL3.out; simp; omega)
  have HL4 : Hid (w2.heap.size < w4.heap.size) := by have := hb.size; have := HL3.out; simp only [Hid]; (try simp at *); omega
  clear hb HB3 HG3
  go_wp2_with fail
  refine (Parse_any [49, 50, 65] _ (by decide) (by first | exact HG4.out | exact HG4.out.alloc _ | exact (HG4.out.alloc _).alloc _)).mono ?_
  rw [show outP [49, 50, 65] = zeroH from by decide +kernel, show errP [49, 50, 65] = 5 from by decide +kernel]
  (try unfold hval)
  (try unfold zeroH)
  rintro e w5 ⟨rfl, hb⟩
  have HB5 : Hid (Below w.heap.size w w5) := by first | exact HB4.out.trans (hb.mono HB4.out.size) | exact (HB4.out.alloc HB4.out.size _).trans (hb.mono (by have := HB4.out.size; simp; omega)) | exact ((HB4.out.alloc HB4.out.size _).alloc (by have := HB4.out.size; simp; omega) _).trans (hb.mono (by have := HB4.out.size; simp; omega))
  have HG5 : Hid (Glob w5) := by first | exact HG4.out.below hb (Nat.le_refl _) | exact (HG4.out.alloc _).below hb (Nat.le_refl _) | exact ((HG4.out.alloc _).alloc _).below hb (Nat.le_refl _)
  have HN5 : Hid (HBox w5 w2.heap.size ⟨12, [], 1, 2⟩) := by first | exact HN4.out.below hb HL4.out | exact HBox.below (w := _) (HBox.mk (HN4.out.blk.alloc _)) hb (by have := HL4.out; simp; omega)
  have HL5 : Hid (w2.heap.size < w5.heap.size) := by have := hb.size; have := HL4.out; simp only [Hid]; (try simp at *); omega
  clear hb HB4 HG4 HN4 HL4
  go_wp2_with fail
  refine (of_any [49, 50, 32, 49, 47, 50] _ (by decide) (by first | exact HG5.out | exact HG5.out.alloc _ | exact (HG5.out.alloc _).alloc _)).mono ?_
  rw [show outP [49, 50, 32, 49, 47, 50] = ⟨12, [], 1, 2⟩ from by decide +kernel]
  (try unfold hval)
  (try unfold zeroH)
  rintro e w6 ⟨rfl, hb⟩
  have HB6 : Hid (Below w.heap.size w w6) := by first | exact HB5.out.trans (hb.mono HB5.out.size) | exact (HB5.out.alloc HB5.out.size _).trans (hb.mono (by have := HB5.out.size; simp; omega)) | exact ((HB5.out.alloc HB5.out.size _).alloc (by have := HB5.out.size; simp; omega) _).trans (hb.mono (by have := HB5.out.size; simp; omega))
  have HG6 : Hid (Glob w6) := by first | exact HG5.out.below hb (Nat.le_refl _) | exact (HG5.out.alloc _).below hb (Nat.le_refl _) | exact ((HG5.out.alloc _).alloc _).below hb (Nat.le_refl _)
  have HN6 : Hid (HBox w6 w2.heap.size ⟨12, [], 1, 2⟩) := by first | exact HN5.out.below hb HL5.out | exact HBox.below (w := _) (HBox.mk (HN5.out.blk.alloc _)) hb (by have := HL5.out; simp; omega)
  have HL6 : Hid (w2.heap.size < w6.heap.size) := by have := hb.size; have := HL5.out; simp only [Hid]; (try simp at *); omega
  clear hb HB5 HG5 HN5 HL5
  go_wp2_with fail
  refine (of_any [49, 50, 97] _ (by decide) (by first | exact HG6.out | exact HG6.out.alloc _ | exact (HG6.out.alloc _).alloc _)).mono ?_
  rw [show outP [49, 50, 97] = ⟨12, [97], 0, 0⟩ from by decide +kernel]
  (try unfold hval)
  (try unfold zeroH)
  rintro e w7 ⟨rfl, hb⟩
  have HB7 : Hid (Below w.heap.size w w7) := by first | exact HB6.out.trans (hb.mono HB6.out.size) | exact (HB6.out.alloc HB6.out.size _).trans (hb.mono (by have := HB6.out.size; simp; omega)) | exact ((HB6.out.alloc HB6.out.size _).alloc (by have := HB6.out.size; simp; omega) _).trans (hb.mono (by have := HB6.out.size; simp; omega))
  have HG7 : Hid (Glob w7) := by first | exact HG6.out.below hb (Nat.le_refl _) | exact (HG6.out.alloc _).below hb (Nat.le_refl _) | exact ((HG6.out.alloc _).alloc _).below hb (Nat.le_refl _)
  have HN7 : Hid (HBox w7 w2.heap.size ⟨12, [], 1, 2⟩) := by first | exact HN6.out.below hb HL6.out | exact HBox.below (w := _) (HBox.mk (HN6.out.blk.alloc _)) hb (by have := HL6.out; simp; omega)
  have HL7 : Hid (w2.heap.size < w7.heap.size) := by have := hb.size; have := HL6.out; simp only [Hid]; (try simp at *); omega
  clear hb HB6 HG6 HN6 HL6
  go_wp2_with fail
  refine (Compare_any ⟨12, [], 1, 2⟩ ⟨12, [97], 0, 0⟩ _ (fit_of (by decide +kernel)) (fit_of (by decide +kernel))).mono ?_
  rw [show cmpV ⟨12, [], 1, 2⟩ ⟨12, [97], 0, 0⟩ = -1 from by decide +kernel, show cmpE ⟨12, [], 1, 2⟩ ⟨12, [97], 0, 0⟩ = 0 from by decide +kernel]
  (try unfold hval)
  (try unfold zeroH)
  rintro e w8 ⟨rfl, hb⟩
  have HB8 : Hid (Below w.heap.size w w8) := by first | exact HB7.out.trans (hb.mono HB7.out.size) | exact (HB7.out.alloc HB7.out.size _).trans (hb.mono (by have := HB7.out.size; simp; omega)) | exact ((HB7.out.alloc HB7.out.size _).alloc (by have := HB7.out.size; simp; omega) _).trans (hb.mono (by have := HB7.out.size; simp; omega))
  have HG8 : Hid (Glob w8) := by first | exact HG7.out.below hb (Nat.le_refl _) | exact (HG7.out.alloc _).below hb (Nat.le_refl _) | exact ((HG7.out.alloc _).alloc _).below hb (Nat.le_refl _)
  have HN8 : Hid (HBox w8 w2.heap.size ⟨12, [], 1, 2⟩) := by first | exact HN7.out.below hb HL7.out | exact HBox.below (w := _) (HBox.mk (HN7.out.blk.alloc _)) hb (by have := HL7.out; simp; omega)
  have HL8 : Hid (w2.heap.size < w8.heap.size) := by have := hb.size; have := HL7.out; simp only [Hid]; (try simp at *); omega
  clear hb HB7 HG7 HN7 HL7
  go_wp2_with fail
  refine (of_any [49, 50, 97] _ (by decide) (by first | exact HG8.out | exact HG8.out.alloc _ | exact (HG8.out.alloc _).alloc _)).mono ?_
  rw [show outP [49, 50, 97] = ⟨12, [97], 0, 0⟩ from by decide +kernel]
  (try unfold hval)
  (try unfold zeroH)
  rintro e w9 ⟨rfl, hb⟩
  have HB9 : Hid (Below w.heap.size w w9) := by first | exact HB8.out.trans (hb.mono HB8.out.size) | exact (HB8.out.alloc HB8.out.size _).trans (hb.mono (by have := HB8.out.size; simp; omega)) | exact ((HB8.out.alloc HB8.out.size _).alloc (by have := HB8.out.size; simp; omega) _).trans (hb.mono (by have := HB8.out.size; simp; omega))
  have HG9 : Hid (Glob w9) := by first | exact HG8.out.below hb (Nat.le_refl _) | exact (HG8.out.alloc _).below hb (Nat.le_refl _) | exact ((HG8.out.alloc _).alloc _).below hb (Nat.le_refl _)
  have HN9 : Hid (HBox w9 w2.heap.size ⟨12, [], 1, 2⟩) := by first | exact HN8.out.below hb HL8.out | exact HBox.below (w := _) (HBox.mk (HN8.out.blk.alloc _)) hb (by have := HL8.out; simp; omega)
  have HL9 : Hid (w2.heap.size < w9.heap.size) := by have := hb.size; have := HL8.out; simp only [Hid]; (try simp at *); omega
  clear hb HB8 HG8 HN8 HL8
  go_wp2_with fail
  refine (of_any [49, 50, 97, 32, 49, 47, 51] _ (by decide) (by first | exact HG9.out | exact HG9.out.alloc _ | exact (HG9.out.alloc _).alloc _)).mono ?_
  rw [show outP [49, 50, 97, 32, 49, 47, 51] = ⟨12, [97], 1, 3⟩ from by decide +kernel]
  (try unfold hval)
  (try unfold zeroH)
  rintro e w10 ⟨rfl, hb⟩
  have HB10 : Hid (Below w.heap.size w w10) := by first | exact HB9.out.trans (hb.mono HB9.out.size) | exact (HB9.out.alloc HB9.out.size _).trans (hb.mono (by have := HB9.out.size; simp; omega)) | exact ((HB9.out.alloc HB9.out.size _).alloc (by have := HB9.out.size; simp; omega) _).trans (hb.mono (by have := HB9.out.size; simp; omega))
  have HG10 : Hid (Glob w10) := by first | exact HG9.out.below hb (Nat.le_refl _) | exact (HG9.out.alloc _).below hb (Nat.le_refl _) | exact ((HG9.out.alloc _).alloc _).below hb (Nat.le_refl _)
  have HN10 : Hid (HBox w10 w2.heap.size ⟨12, [], 1, 2⟩) := by first | exact HN9.out.below hb HL9.out | exact HBox.below (w := _) (HBox.mk (HN9.out.blk.alloc _)) hb (by have := HL9.out; simp; omega)
  have HL10 : Hid (w2.heap.size < w10.heap.size) := by have := hb.size; have := HL9.out; simp only [Hid]; (try simp at *); omega
  clear hb HB9 HG9 HN9 HL9
  go_wp2_with fail
  refine (Compare_any ⟨12, [97], 0, 0⟩ ⟨12, [97], 1, 3⟩ _ (fit_of (by decide +kernel)) (fit_of (by decide +kernel))).mono ?_
  rw [show cmpV ⟨12, [97], 0, 0⟩ ⟨12, [97], 1, 3⟩ = -1 from by decide +kernel, show cmpE ⟨12, [97], 0, 0⟩ ⟨12, [97], 1, 3⟩ = 0 from by decide +kernel]
  (try unfold hval)
  (try unfold zeroH)
  rintro e w11 ⟨rfl, hb⟩
  have HB11 : Hid (Below w.heap.size w w11) := by first | exact HB10.out.trans (hb.mono HB10.out.size) | exact (HB10.out.alloc HB10.out.size _).trans (hb.mono (by have := HB10.out.size; simp; omega)) | exact ((HB10.out.alloc HB10.out.size _).alloc (by have := HB10.out.size; simp; omega) _).trans (hb.mono (by have := HB10.out.size; simp; omega))
  have HG11 : Hid (Glob w11) := by first | exact HG10.out.below hb (Nat.le_refl _) | exact (HG10.out.alloc _).below hb (Nat.le_refl _) | exact ((HG10.out.alloc _).alloc _).below hb (Nat.le_refl _)
  have HN11 : Hid (HBox w11 w2.heap.size ⟨12, [], 1, 2⟩) := by first | exact HN10.out.below hb HL10.out | exact HBox.below (w := _) (HBox.mk (HN10.out.blk.alloc _)) hb (by have := HL10.out; simp; omega)
  have HL11 : Hid (w2.heap.size < w11.heap.size) := by have := hb.size; have := HL10.out; simp only [Hid]; (try simp at *); omega
  clear hb HB10 HG10 HN10 HL10
  go_wp2_with fail
  refine (of_any [49, 51] _ (by decide) (by first | exact HG11.out | exact HG11.out.alloc _ | exact (HG11.out.alloc _).alloc _)).mono ?_
  rw [show outP [49, 51] = ⟨13, [], 0, 0⟩ from by decide +kernel]
  (try unfold hval)
  (try unfold zeroH)
  rintro e w12 ⟨rfl, hb⟩
  have HB12 : Hid (Below w.heap.size w w12) := by first | exact HB11.out.trans (hb.mono HB11.out.size) | exact (HB11.out.alloc HB11.out.size _).trans (hb.mono (by have := HB11.out.size; simp; omega)) | exact ((HB11.out.alloc HB11.out.size _).alloc (by have := HB11.out.size; simp; omega) _).trans (hb.mono (by have := HB11.out.size; simp; omega))
  have HG12 : Hid (Glob w12) := by first | exact HG11.out.below hb (Nat.le_refl _) | exact (HG11.out.alloc _).below hb (Nat.le_refl _) | exact ((HG11.out.alloc _).alloc _).below hb (Nat.le_refl _)
  have HN12 : Hid (HBox w12 w2.heap.size ⟨12, [], 1, 2⟩) := by first | exact HN11.out.below hb HL11.out | exact HBox.below (w := _) (HBox.mk (HN11.out.blk.alloc _)) hb (by have := HL11.out; simp; omega)
  have HL12 : Hid (w2.heap.size < w12.heap.size) := by have := hb.size; have := HL11.out; simp only [Hid]; (try simp at *); omega
  clear hb HB11 HG11 HN11 HL11
  go_wp2_with fail
  refine (of_any [49, 50] _ (by decide) (by first | exact HG12.out | exact HG12.out.alloc _ | exact (HG12.out.alloc _).alloc _)).mono ?_
  rw [show outP [49, 50] = ⟨12, [], 0, 0⟩ from by decide +kernel]
  (try unfold hval)
  (try unfold zeroH)
  rintro e w13 ⟨rfl, hb⟩
  have HB13 : Hid (Below w.heap.size w w13) := by first | exact HB12.out.trans (hb.mono HB12.out.size) | exact (HB12.out.alloc HB12.out.size _).trans (hb.mono (by have := HB12.out.size; simp; omega)) | exact ((HB12.out.alloc HB12.out.size _).alloc (by have := HB12.out.size; simp; omega) _).trans (hb.mono (by have := HB12.out.size; simp; omega))
  have HG13 : Hid (Glob w13) := by first | exact HG12.out.below hb (Nat.le_refl _) | exact (HG12.out.alloc _).below hb (Nat.le_refl _) | exact ((HG12.out.alloc _).alloc _).below hb (Nat.le_refl _)
  have HN13 : Hid (HBox w13 w2.heap.size ⟨12, [], 1, 2⟩) := by first | exact HN12.out.below hb HL12.out | exact HBox.below (w := _) (HBox.mk (HN12.out.blk.alloc _)) hb (by have := HL12.out; simp; omega)
  have HL13 : Hid (w2.heap.size < w13.heap.size) := by have := hb.size; have := HL12.out; simp only [Hid]; (try simp at *); omega
  clear hb HB12 HG12 HN12 HL12
  go_wp2_with fail
  refine (Between_any ⟨13, [], 0, 0⟩ ⟨12, [], 0, 0⟩ _ (fit_of (by decide +kernel)) (fit_of (by decide +kernel))).mono ?_
  rw [show betV ⟨13, [], 0, 0⟩ ⟨12, [], 0, 0⟩ = zeroH from by decide +kernel, show betE ⟨13, [], 0, 0⟩ ⟨12, [], 0, 0⟩ = 13 from by decide +kernel]
  (try unfold hval)
  (try unfold zeroH)
  rintro e w14 ⟨rfl, hb⟩
  have HB14 : Hid (Below w.heap.size w w14) := by first | exact HB13.out.trans (hb.mono HB13.out.size) | exact (HB13.out.alloc HB13.out.size _).trans (hb.mono (by have := HB13.out.size; simp; omega)) | exact ((HB13.out.alloc HB13.out.size _).alloc (by have := HB13.out.size; simp; omega) _).trans (hb.mono (by have := HB13.out.size; simp; omega))
  have HG14 : Hid (Glob w14) := by first | exact HG13.out.below hb (Nat.le_refl _) | exact (HG13.out.alloc _).below hb (Nat.le_refl _) | exact ((HG13.out.alloc _).alloc _).below hb (Nat.le_refl _)
  have HN14 : Hid (HBox w14 w2.heap.size ⟨12, [], 1, 2⟩) := by first | exact HN13.out.below hb HL13.out | exact HBox.below (w := _) (HBox.mk (HN13.out.blk.alloc _)) hb (by have := HL13.out; simp; omega)
  have HL14 : Hid (w2.heap.size < w14.heap.size) := by have := hb.size; have := HL13.out; simp only [Hid]; (try simp at *); omega
  clear hb HB13 HG13 HN13 HL13
  obtain ⟨x0, x1, x2, x3⟩ := HN14.out.facts
  have hl := HL14.out
  have hl2 : w2.heap.size ≠ w14.heap.size := by omega
  have hts : (bs [49, 50, 97, 32, 49, 47, 50]).toList = [49, 50, 97, 32, 49, 47, 50] := by rw [ByteArray.toList_eq, bs_list]
  go_wp2_with fail
  refine (of_any [49, 51, 97] _ (by decide) (by first | exact HG14.out | exact HG14.out.alloc _ | exact (HG14.out.alloc _).alloc _)).mono ?_
  rw [show outP [49, 51, 97] = ⟨13, [97], 0, 0⟩ from by decide +kernel]
  (try unfold hval)
  (try unfold zeroH)
  rintro e w15 ⟨rfl, hb⟩
  have HB15 : Hid (Below w.heap.size w w15) := by first | exact HB14.out.trans (hb.mono HB14.out.size) | exact (HB14.out.alloc HB14.out.size _).trans (hb.mono (by have := HB14.out.size; simp; omega)) | exact ((HB14.out.alloc HB14.out.size _).alloc (by have := HB14.out.size; simp; omega) _).trans (hb.mono (by have := HB14.out.size; simp; omega))
  have HG15 : Hid (Glob w15) := by first | exact HG14.out.below hb (Nat.le_refl _) | exact (HG14.out.alloc _).below hb (Nat.le_refl _) | exact ((HG14.out.alloc _).alloc _).below hb (Nat.le_refl _)
  have HN15 : Hid (HBox w15 w2.heap.size ⟨12, [], 1, 2⟩) := by first | exact HN14.out.below hb HL14.out | exact HBox.below (w := _) (HBox.mk (HN14.out.blk.alloc _)) hb (by have := HL14.out; simp; omega)
  have HL15 : Hid (w2.heap.size < w15.heap.size) := by have := hb.size; have := HL14.out; simp only [Hid]; (try simp at *); omega
  clear hb HB14 HG14 HN14 HL14
  go_wp2_with fail
  refine (Odd_any ⟨13, [97], 0, 0⟩ _ (fit_of (by decide +kernel))).mono ?_
  rw [show HN.odd ⟨13, [97], 0, 0⟩ = true from by decide +kernel]
  (try unfold hval)
  (try unfold zeroH)
  rintro e w16 ⟨rfl, hb⟩
  have HB16 : Hid (Below w.heap.size w w16) := by first | exact HB15.out.trans (hb.mono HB15.out.size) | exact (HB15.out.alloc HB15.out.size _).trans (hb.mono (by have := HB15.out.size; simp; omega)) | exact ((HB15.out.alloc HB15.out.size _).alloc (by have := HB15.out.size; simp; omega) _).trans (hb.mono (by have := HB15.out.size; simp; omega))
  have HG16 : Hid (Glob w16) := by first | exact HG15.out.below hb (Nat.le_refl _) | exact (HG15.out.alloc _).below hb (Nat.le_refl _) | exact ((HG15.out.alloc _).alloc _).below hb (Nat.le_refl _)
  have HN16 : Hid (HBox w16 w2.heap.size ⟨12, [], 1, 2⟩) := by first | exact HN15.out.below hb HL15.out | exact HBox.below (w := _) (HBox.mk (HN15.out.blk.alloc _)) hb (by have := HL15.out; simp; omega)
  have HL16 : Hid (w2.heap.size < w16.heap.size) := by have := hb.size; have := HL15.out; simp only [Hid]; (try simp at *); omega
  clear hb HB15 HG15 HN15 HL15
  go_wp2_with fail
  refine (of_any [49, 50] _ (by decide) (by first | exact HG16.out | exact HG16.out.alloc _ | exact (HG16.out.alloc _).alloc _)).mono ?_
  rw [show outP [49, 50] = ⟨12, [], 0, 0⟩ from by decide +kernel]
  (try unfold hval)
  (try unfold zeroH)
  rintro e w17 ⟨rfl, hb⟩
  have HB17 : Hid (Below w.heap.size w w17) := by first | exact HB16.out.trans (hb.mono HB16.out.size) | exact (HB16.out.alloc HB16.out.size _).trans (hb.mono (by have := HB16.out.size; simp; omega)) | exact ((HB16.out.alloc HB16.out.size _).alloc (by have := HB16.out.size; simp; omega) _).trans (hb.mono (by have := HB16.out.size; simp; omega))
  have HG17 : Hid (Glob w17) := by first | exact HG16.out.below hb (Nat.le_refl _) | exact (HG16.out.alloc _).below hb (Nat.le_refl _) | exact ((HG16.out.alloc _).alloc _).below hb (Nat.le_refl _)
  have HN17 : Hid (HBox w17 w2.heap.size ⟨12, [], 1, 2⟩) := by first | exact HN16.out.below hb HL16.out | exact HBox.below (w := _) (HBox.mk (HN16.out.blk.alloc _)) hb (by have := HL16.out; simp; omega)
  have HL17 : Hid (w2.heap.size < w17.heap.size) := by have := hb.size; have := HL16.out; simp only [Hid]; (try simp at *); omega
  clear hb HB16 HG16 HN16 HL16
  go_wp2_with fail
  refine (Odd_any ⟨12, [], 0, 0⟩ _ (fit_of (by decide +kernel))).mono ?_
  rw [show HN.odd ⟨12, [], 0, 0⟩ = false from by decide +kernel]
  (try unfold hval)
  (try unfold zeroH)
  rintro e w18 ⟨rfl, hb⟩
  have HB18 : Hid (Below w.heap.size w w18) := by first | exact HB17.out.trans (hb.mono HB17.out.size) | exact (HB17.out.alloc HB17.out.size _).trans (hb.mono (by have := HB17.out.size; simp; omega)) | exact ((HB17.out.alloc HB17.out.size _).alloc (by have := HB17.out.size; simp; omega) _).trans (hb.mono (by have := HB17.out.size; simp; omega))
  have HG18 : Hid (Glob w18) := by first | exact HG17.out.below hb (Nat.le_refl _) | exact (HG17.out.alloc _).below hb (Nat.le_refl _) | exact ((HG17.out.alloc _).alloc _).below hb (Nat.le_refl _)
  have HN18 : Hid (HBox w18 w2.heap.size ⟨12, [], 1, 2⟩) := by first | exact HN17.out.below hb HL17.out | exact HBox.below (w := _) (HBox.mk (HN17.out.blk.alloc _)) hb (by have := HL17.out; simp; omega)
  have HL18 : Hid (w2.heap.size < w18.heap.size) := by have := hb.size; have := HL17.out; simp only [Hid]; (try simp at *); omega
  clear hb HB17 HG17 HN17 HL17
  go_wp2_with fail
  refine (between_any [49, 50] [49, 53] [49, 51] _ (by decide) (by decide) (by first | exact HG18.out | exact HG18.out.alloc _ | exact (HG18.out.alloc _).alloc _) (by decide)).mono ?_
  rw [show betT [49, 50] [49, 53] [49, 51] = true from by decide +kernel]
  (try unfold hval)
  (try unfold zeroH)
  rintro e w19 ⟨rfl, hb⟩
  have HB19 : Hid (Below w.heap.size w w19) := by first | exact HB18.out.trans (hb.mono HB18.out.size) | exact (HB18.out.alloc HB18.out.size _).trans (hb.mono (by have := HB18.out.size; simp; omega)) | exact ((HB18.out.alloc HB18.out.size _).alloc (by have := HB18.out.size; simp; omega) _).trans (hb.mono (by have := HB18.out.size; simp; omega))
  have HG19 : Hid (Glob w19) := by first | exact HG18.out.below hb (Nat.le_refl _) | exact (HG18.out.alloc _).below hb (Nat.le_refl _) | exact ((HG18.out.alloc _).alloc _).below hb (Nat.le_refl _)
  have HN19 : Hid (HBox w19 w2.heap.size ⟨12, [], 1, 2⟩) := by first | exact HN18.out.below hb HL18.out | exact HBox.below (w := _) (HBox.mk (HN18.out.blk.alloc _)) hb (by have := HL18.out; simp; omega)
  have HL19 : Hid (w2.heap.size < w19.heap.size) := by have := hb.size; have := HL18.out; simp only [Hid]; (try simp at *); omega
  clear hb HB18 HG18 HN18 HL18
  go_wp2_with fail
  refine (between_any [49, 50] [49, 51] [49, 50, 97] _ (by decide) (by decide) (by first | exact HG19.out | exact HG19.out.alloc _ | exact (HG19.out.alloc _).alloc _) (by decide)).mono ?_
  rw [show betT [49, 50] [49, 51] [49, 50, 97] = true from by decide +kernel]
  (try unfold hval)
  (try unfold zeroH)
  rintro e w20 ⟨rfl, hb⟩
  have HB20 : Hid (Below w.heap.size w w20) := by first | exact HB19.out.trans (hb.mono HB19.out.size) | exact (HB19.out.alloc HB19.out.size _).trans (hb.mono (by have := HB19.out.size; simp; omega)) | exact ((HB19.out.alloc HB19.out.size _).alloc (by have := HB19.out.size; simp; omega) _).trans (hb.mono (by have := HB19.out.size; simp; omega))
  have HG20 : Hid (Glob w20) := by first | exact HG19.out.below hb (Nat.le_refl _) | exact (HG19.out.alloc _).below hb (Nat.le_refl _) | exact ((HG19.out.alloc _).alloc _).below hb (Nat.le_refl _)
  have HN20 : Hid (HBox w20 w2.heap.size ⟨12, [], 1, 2⟩) := by first | exact HN19.out.below hb HL19.out | exact HBox.below (w := _) (HBox.mk (HN19.out.blk.alloc _)) hb (by have := HL19.out; simp; omega)
  have HL20 : Hid (w2.heap.size < w20.heap.size) := by have := hb.size; have := HL19.out; simp only [Hid]; (try simp at *); omega
  clear hb HB19 HG19 HN19 HL19
  go_wp2_with fail
  refine (between_any [49, 50] [49, 50, 97] [49, 50, 32, 49, 47, 57] _ (by decide) (by decide) (by first | exact HG20.out | exact HG20.out.alloc _ | exact (HG20.out.alloc _).alloc _) (by decide)).mono ?_
  rw [show betT [49, 50] [49, 50, 97] [49, 50, 32, 49, 47, 57] = true from by decide +kernel]
  (try unfold hval)
  (try unfold zeroH)
  rintro e w21 ⟨rfl, hb⟩
  have HB21 : Hid (Below w.heap.size w w21) := by first | exact HB20.out.trans (hb.mono HB20.out.size) | exact (HB20.out.alloc HB20.out.size _).trans (hb.mono (by have := HB20.out.size; simp; omega)) | exact ((HB20.out.alloc HB20.out.size _).alloc (by have := HB20.out.size; simp; omega) _).trans (hb.mono (by have := HB20.out.size; simp; omega))
  have HG21 : Hid (Glob w21) := by first | exact HG20.out.below hb (Nat.le_refl _) | exact (HG20.out.alloc _).below hb (Nat.le_refl _) | exact ((HG20.out.alloc _).alloc _).below hb (Nat.le_refl _)
  have HN21 : Hid (HBox w21 w2.heap.size ⟨12, [], 1, 2⟩) := by first | exact HN20.out.below hb HL20.out | exact HBox.below (w := _) (HBox.mk (HN20.out.blk.alloc _)) hb (by have := HL20.out; simp; omega)
  have HL21 : Hid (w2.heap.size < w21.heap.size) := by have := hb.size; have := HL20.out; simp only [Hid]; (try simp at *); omega
  clear hb HB20 HG20 HN20 HL20
  go_wp2_with fail
  refine (between_any [49, 50, 122] [49, 51] [49, 50, 122, 32, 49, 47, 57] _ (by decide) (by decide) (by first | exact HG21.out | exact HG21.out.alloc _ | exact (HG21.out.alloc _).alloc _) (by decide)).mono ?_
  rw [show betT [49, 50, 122] [49, 51] [49, 50, 122, 32, 49, 47, 57] = true from by decide +kernel]
  (try unfold hval)
  (try unfold zeroH)
  rintro e w22 ⟨rfl, hb⟩
  have HB22 : Hid (Below w.heap.size w w22) := by first | exact HB21.out.trans (hb.mono HB21.out.size) | exact (HB21.out.alloc HB21.out.size _).trans (hb.mono (by have := HB21.out.size; simp; omega)) | exact ((HB21.out.alloc HB21.out.size _).alloc (by have := HB21.out.size; simp; omega) _).trans (hb.mono (by have := HB21.out.size; simp; omega))
  have HG22 : Hid (Glob w22) := by first | exact HG21.out.below hb (Nat.le_refl _) | exact (HG21.out.alloc _).below hb (Nat.le_refl _) | exact ((HG21.out.alloc _).alloc _).below hb (Nat.le_refl _)
  have HN22 : Hid (HBox w22 w2.heap.size ⟨12, [], 1, 2⟩) := by first | exact HN21.out.below hb HL21.out | exact HBox.below (w := _) (HBox.mk (HN21.out.blk.alloc _)) hb (by have := HL21.out; simp; omega)
  have HL22 : Hid (w2.heap.size < w22.heap.size) := by have := hb.size; have := HL21.out; simp only [Hid]; (try simp at *); omega
  clear hb HB21 HG21 HN21 HL21
  go_wp2_with fail
  refine (between0_any [49, 50, 32, 56, 47, 57] [49, 50, 97] _ (by decide) (by decide) (by first | exact HG22.out | exact HG22.out.alloc _ | exact (HG22.out.alloc _).alloc _) (by decide +kernel) (by decide +kernel)).mono ?_
  (try unfold hval)
  (try unfold zeroH)
  rintro e w23 ⟨rfl, hb⟩
  have HB23 : Hid (Below w.heap.size w w23) := by first | exact HB22.out.trans (hb.mono HB22.out.size) | exact (HB22.out.alloc HB22.out.size _).trans (hb.mono (by have := HB22.out.size; simp; omega)) | exact ((HB22.out.alloc HB22.out.size _).alloc (by have := HB22.out.size; simp; omega) _).trans (hb.mono (by have := HB22.out.size; simp; omega))
  have HG23 : Hid (Glob w23) := by first | exact HG22.out.below hb (Nat.le_refl _) | exact (HG22.out.alloc _).below hb (Nat.le_refl _) | exact ((HG22.out.alloc _).alloc _).below hb (Nat.le_refl _)
  have HN23 : Hid (HBox w23 w2.heap.size ⟨12, [], 1, 2⟩) := by first | exact HN22.out.below hb HL22.out | exact HBox.below (w := _) (HBox.mk (HN22.out.blk.alloc _)) hb (by have := HL22.out; simp; omega)
  have HL23 : Hid (w2.heap.size < w23.heap.size) := by have := hb.size; have := HL22.out; simp only [Hid]; (try simp at *); omega
  clear hb HB22 HG22 HN22 HL22
  go_wp2_with fail
  go_ret
  exact ⟨rfl, HB23.out⟩
end Go.Proofs.YtabphhclnboknaaDoor
