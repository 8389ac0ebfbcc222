/- Walk of chapter 46: head. -/
import Derived.Test.YtldicibhfmnjnaaGreatDoorD3
set_option linter.unusedVariables false
set_option linter.unusedSimpArgs false
namespace Go.Proofs.YtldicibhfmnjnaaGreatDoor
open Go.RowKit
theorem w_a : writeP [97] = [97, 104, 97] ∧ writeE [97] = 0 := by decide +kernel
theorem rd1 : (readP [97, 104, 97] == [97] && readE [97, 104, 97] == 0) = true := by decide +kernel
theorem rd2 : (readP [97, 63, 97] == [97] && readE [97, 63, 97] == 0) = true := by decide +kernel
theorem rd3 : (readP [63, 63, 97] == [97] && readE [63, 63, 97] == 0) = true := by decide +kernel
theorem rd4 : (readP [97, 104, 108] == [] && readE [97, 104, 108] == 20) = true := by decide +kernel
theorem rd5 : (readP [104, 63, 63] == [104] && readE [104, 63, 63] == 0) = true := by decide +kernel
theorem rd6 : (readP [65, 72, 65] == [] && readE [65, 72, 65] == 1) = true := by decide +kernel
theorem rd7 : (readP [97, 104] == [] && readE [97, 104] == 1) = true := by decide +kernel
theorem rd8 : (readP [63, 63, 63] == [] && readE [63, 63, 63] == 20) = true := by decide +kernel
set_option maxRecDepth 100000 in
set_option maxHeartbeats 4000000 in
theorem head_any (w : World) (hg : Glob w) : Calls Tryz.prog 11 #[] w fun e w' => e = .returned (.bool true) ∧ Below w.heap.size w w' := by
  have CW := fun w => Write_any [97] (by decide) w
  rw [w_a.1, w_a.2] at CW
  have CP := fun w hg => Pack_good [100, 49] 3 (-1) 12 false ex_good w hg
  rw [ex_pack] at CP
  have CU := fun w hg => Unpack_ex w hg
  unfold lval at CP CU
  have hbd : bs [100, 49] = { data := #[100, 49] } := rfl
  rw [hbd] at CP CU
  clear hbd
  have hex : ((bs exT).toList == [48, 48, 51, 49, 50, 48, 48, 48, 48, 48, 48, 100, 49]) = true := by rw [bs_toList]; rfl
  have hah : ((bs [97, 104, 97]).toList == [97, 104, 97]) = true := by rw [bs_toList]; rfl
  have C1 : ∀ w, Calls Tryz.prog 21 #[.string { data := #[97, 104, 97] }, .string { data := #[97] }, .int .i64 0] w fun e w' => e = .returned (.bool true) ∧ Below w.heap.size w w' := fun w => by
    have := read_any [97, 104, 97] [97] 0 (by decide) w
    rw [rd1] at this
    exact this
  have C2 : ∀ w, Calls Tryz.prog 21 #[.string { data := #[97, 63, 97] }, .string { data := #[97] }, .int .i64 0] w fun e w' => e = .returned (.bool true) ∧ Below w.heap.size w w' := fun w => by
    have := read_any [97, 63, 97] [97] 0 (by decide) w
    rw [rd2] at this
    exact this
  have C3 : ∀ w, Calls Tryz.prog 21 #[.string { data := #[63, 63, 97] }, .string { data := #[97] }, .int .i64 0] w fun e w' => e = .returned (.bool true) ∧ Below w.heap.size w w' := fun w => by
    have := read_any [63, 63, 97] [97] 0 (by decide) w
    rw [rd3] at this
    exact this
  have C4 : ∀ w, Calls Tryz.prog 21 #[.string { data := #[97, 104, 108] }, .string { data := #[] }, .int .i64 20] w fun e w' => e = .returned (.bool true) ∧ Below w.heap.size w w' := fun w => by
    have := read_any [97, 104, 108] [] 20 (by decide) w
    rw [rd4] at this
    exact this
  have C5 : ∀ w, Calls Tryz.prog 21 #[.string { data := #[104, 63, 63] }, .string { data := #[104] }, .int .i64 0] w fun e w' => e = .returned (.bool true) ∧ Below w.heap.size w w' := fun w => by
    have := read_any [104, 63, 63] [104] 0 (by decide) w
    rw [rd5] at this
    exact this
  have C6 : ∀ w, Calls Tryz.prog 21 #[.string { data := #[65, 72, 65] }, .string { data := #[] }, .int .i64 1] w fun e w' => e = .returned (.bool true) ∧ Below w.heap.size w w' := fun w => by
    have := read_any [65, 72, 65] [] 1 (by decide) w
    rw [rd6] at this
    exact this
  have C7 : ∀ w, Calls Tryz.prog 21 #[.string { data := #[97, 104] }, .string { data := #[] }, .int .i64 1] w fun e w' => e = .returned (.bool true) ∧ Below w.heap.size w w' := fun w => by
    have := read_any [97, 104] [] 1 (by decide) w
    rw [rd7] at this
    exact this
  have C8 : ∀ w, Calls Tryz.prog 21 #[.string { data := #[63, 63, 63] }, .string { data := #[] }, .int .i64 20] w fun e w' => e = .returned (.bool true) ∧ Below w.heap.size w w' := fun w => by
    have := read_any [63, 63, 63] [] 20 (by decide) w
    rw [rd8] at this
    exact this
  go_enter Tryz.func11, Tryz.ntmps11
  go_wp2_with fail
  refine (CW _).mono ?_
  rintro e w1 ⟨rfl, hb⟩
  have HB1 := hide hb
  have HG1 := hide (hg.to hb)
  clear hb hg CW
  go_wp2_with fail
  refine (CP _ HG1.out).mono ?_
  rintro e w2 ⟨rfl, hb⟩
  have HB2 := hide (below_to HB1.out (Nat.le_refl _) hb)
  have HG2 := hide (HG1.out.to hb)
  clear hb CP HB1 HG1
  go_wp2_with fail
  refine (CU _ HG2.out).mono ?_
  rintro e w3 ⟨rfl, hb⟩
  have HB3 := hide (below_to HB2.out (Nat.le_refl _) hb)
  clear hb CU HB2 HG2
  go_wp2_with fail
  have HC0 := hide (below_to HB3.out (Nat.le_refl _) (below_one w3 (.cells #[.string { data := #[100, 49] }, .int .i64 3, .int .i64 (-1), .int .i64 12, .bool false] 23)))
  refine (C1 _).mono ?_
  rintro e v1 ⟨rfl, hb⟩
  have HC1 := hide (below_to HC0.out (Nat.le_refl _) hb)
  clear hb C1 HC0
  go_wp2_with fail
  refine (C2 _).mono ?_
  rintro e v2 ⟨rfl, hb⟩
  have HC2 := hide (below_to HC1.out (Nat.le_refl _) hb)
  clear hb C2 HC1
  go_wp2_with fail
  refine (C3 _).mono ?_
  rintro e v3 ⟨rfl, hb⟩
  have HC3 := hide (below_to HC2.out (Nat.le_refl _) hb)
  clear hb C3 HC2
  go_wp2_with fail
  refine (C4 _).mono ?_
  rintro e v4 ⟨rfl, hb⟩
  have HC4 := hide (below_to HC3.out (Nat.le_refl _) hb)
  clear hb C4 HC3
  go_wp2_with fail
  refine (C5 _).mono ?_
  rintro e v5 ⟨rfl, hb⟩
  have HC5 := hide (below_to HC4.out (Nat.le_refl _) hb)
  clear hb C5 HC4
  go_wp2_with fail
  refine (C6 _).mono ?_
  rintro e v6 ⟨rfl, hb⟩
  have HC6 := hide (below_to HC5.out (Nat.le_refl _) hb)
  clear hb C6 HC5
  go_wp2_with fail
  refine (C7 _).mono ?_
  rintro e v7 ⟨rfl, hb⟩
  have HC7 := hide (below_to HC6.out (Nat.le_refl _) hb)
  clear hb C7 HC6
  go_wp2_with fail
  refine (C8 _).mono ?_
  rintro e v8 ⟨rfl, hb⟩
  have HC8 := hide (below_to HC7.out (Nat.le_refl _) hb)
  clear hb C8 HC7
  go_wp2_with fail
  go_ret
  exact ⟨rfl, HC8.out⟩
end Go.Proofs.YtldicibhfmnjnaaGreatDoor
