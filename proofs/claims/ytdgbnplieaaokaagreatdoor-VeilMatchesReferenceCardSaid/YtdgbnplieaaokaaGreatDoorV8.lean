/- Walk of the law's head: the examples of the chapter. -/
import Derived.Test.YtdgbnplieaaokaaGreatDoorV7
set_option linter.unusedVariables false
set_option linter.unusedSimpArgs false
namespace Go.Proofs.YtdgbnplieaaokaaGreatDoor
open Go.RowKit

theorem keyT_bs : bs keyT = ⟨#[107, 101, 121]⟩ := rfl
theorem otherT_bs : bs otherT = ⟨#[111, 116, 104, 101, 114]⟩ := rfl
theorem xT_bs : bs [120] = ⟨#[120]⟩ := rfl
theorem lockE_x : lockE [120] 7 12 = 1 := by decide +kernel
theorem lockP_x : lockP keyT [120] 7 12 = [] := by decide +kernel
theorem lockE_far : lockE saltT 7 32768 = 1 := by unfold lockE canL; rw [show onP 7 32768 = false from by decide +kernel]; simp
theorem lockP_far : lockP keyT saltT 7 32768 = [] := by unfold lockP canL; rw [show onP 7 32768 = false from by decide +kernel]; simp
theorem openE_x : openE keyT [120] = 1 := by decide +kernel
theorem openX_x : openX keyT [120] = 0 := by decide +kernel
theorem openY_x : openY keyT [120] = 0 := by decide +kernel
theorem openE_other : openE otherT headV = 15 := by unfold openE; rw [head_other, head_isV]; rfl
theorem openX_other : openX otherT headV = 0 := by unfold openX; rw [head_other]; rfl
theorem openY_other : openY otherT headV = 0 := by unfold openY; rw [head_other]; rfl
theorem head_good : goodV keyT headV = true ∧ (xV keyT headV : Int) = 7 ∧ (yV keyT headV : Int) = 12 := lock_open head_can
theorem openE_key : openE keyT headV = 0 := by unfold openE; rw [head_good.1]; rfl
theorem openX_key : openX keyT headV = 7 := by unfold openX; rw [head_good.1, if_pos rfl]; exact head_good.2.1
theorem openY_key : openY keyT headV = 12 := by unfold openY; rw [head_good.1, if_pos rfl]; exact head_good.2.2
theorem lockE_head : lockE saltT 7 12 = 0 := by unfold lockE; rw [head_can]; rfl
theorem headV_len : headV.length = 42 := (lock_parts head_can).2.2.2
theorem saltT_len : saltT.length = 16 := sumD_len _
set_option maxHeartbeats 8000000 in
theorem head_any (w : World) (hg : Glob w) : Calls Tryz.prog 4 #[] w fun e w' => e = .returned (.bool true) ∧ Below w.heap.size w w' := by
  have HG0 := hide hg
  have HB0 : Hid (Below w.heap.size w w) := Below.refl _ _
  clear hg
  go_enter Tryz.func4, Tryz.ntmps4
  go_wp2_with fail
  have HB1 := hide (below_alloc HB0.out (Nat.le_refl _) (.cells #[.int .i64 7, .int .i64 12] 23))
  have HG1 := hide (HG0.out.alloc (.cells #[.int .i64 7, .int .i64 12] 23))
  have Hp1 := hide (Blk.new w 23 #[.int .i64 7, .int .i64 12])
  generalize w.alloc (.cells #[.int .i64 7, .int .i64 12] 23) = w1 at *
  obtain ⟨Ap, HAp⟩ : ∃ A, Hid (w.heap.size = A) := ⟨_, rfl⟩
  rw [HAp.out] at Hp1 ⊢
  clear HB0 HG0
  refine (Sum_any [115, 97, 108, 116] (by decide) _ HG1.out).mono ?_
  rw [show sumD [115, 97, 108, 116] = saltT from rfl]
  rintro e w2 ⟨rfl, hb⟩
  have HB2 := hide (below_to HB1.out (Nat.le_refl _) hb)
  have HG2 := hide (HG1.out.to hb)
  have Hp2 := hide (Hp1.out.to hb)
  clear hb HB1 HG1 Hp1
  have hsl := saltT_len
  have HSl : Hid (saltT.length ≤ 140737488351232) := by show _ ≤ _; omega
  clear hsl
  have p0 := Hp2.out.cell 0
  have p1 := Hp2.out.cell 1
  have p2 := Hp2.out.lt
  have p3 := Nat.ne_of_lt p2
  go_wp2_with fail
  clear p0 p1 p2 p3
  refine (Lock_any keyT saltT 7 12 (by decide) HSl.out _ HG2.out).mono ?_
  rw [lockE_head, show lockP keyT saltT 7 12 = headV from rfl]
  rintro e w3 ⟨rfl, hb⟩
  have HB3 := hide (below_to HB2.out (Nat.le_refl _) hb)
  have HG3 := hide (HG2.out.to hb)
  have Hp3 := hide (Hp2.out.to hb)
  clear hb HB2 HG2 Hp2
  have HVl : Hid (headV.length ≤ 140737488351232) := by show _ ≤ _; rw [headV_len]; decide
  have p0 := Hp3.out.cell 0
  have p1 := Hp3.out.cell 1
  have p2 := Hp3.out.lt
  have p3 := Nat.ne_of_lt p2
  go_wp2_with fail
  clear p0 p1 p2 p3
  refine (Open_any keyT headV (by decide) HVl.out _ HG3.out).mono ?_
  rw [openE_key, openX_key, openY_key]
  rintro e w4 ⟨rfl, hb⟩
  have HB4 := hide (below_to HB3.out (Nat.le_refl _) hb)
  have HG4 := hide (HG3.out.to hb)
  have Hp4 := hide (Hp3.out.to hb)
  clear hb HB3 HG3 Hp3
  unfold pval
  have p0 := Hp4.out.cell 0
  have p1 := Hp4.out.cell 1
  have p2 := Hp4.out.lt
  have p3 := Nat.ne_of_lt p2
  go_wp2_with fail
  clear p0 p1 p2 p3
  have HB5 := hide (below_alloc HB4.out (Nat.le_refl _) (.cells #[.int .i64 7, .int .i64 12] 23))
  have HG5 := hide (HG4.out.alloc (.cells #[.int .i64 7, .int .i64 12] 23))
  have Hp5 := hide (Hp4.out.alloc (.cells #[.int .i64 7, .int .i64 12] 23))
  have Hq5 := hide (Blk.new w4 23 #[.int .i64 7, .int .i64 12])
  generalize w4.alloc (.cells #[.int .i64 7, .int .i64 12] 23) = w5 at *
  generalize w4.heap.size = Aq at *
  clear HB4 HG4 Hp4
  refine (Open_any otherT headV (by decide) HVl.out _ HG5.out).mono ?_
  rw [openE_other, openX_other, openY_other]
  rintro e w6 ⟨rfl, hb⟩
  have HB6 := hide (below_to HB5.out (Nat.le_refl _) hb)
  have HG6 := hide (HG5.out.to hb)
  have Hp6 := hide (Hp5.out.to hb)
  have Hq6 := hide (Hq5.out.to hb)
  clear hb HB5 HG5 Hp5 Hq5
  unfold pval
  have p0 := Hp6.out.cell 0
  have p1 := Hp6.out.cell 1
  have p2 := Hp6.out.lt
  have p3 := Nat.ne_of_lt p2
  have q0 := Hq6.out.cell 0
  have q1 := Hq6.out.cell 1
  have q2 := Hq6.out.lt
  have q3 := Nat.ne_of_lt q2
  go_wp2_with fail
  clear p0 p1 p2 p3
  clear q0 q1 q2 q3
  have HB7 := hide (below_alloc HB6.out (Nat.le_refl _) (.cells #[.int .i64 0, .int .i64 0] 23))
  have HG7 := hide (HG6.out.alloc (.cells #[.int .i64 0, .int .i64 0] 23))
  have Hp7 := hide (Hp6.out.alloc (.cells #[.int .i64 0, .int .i64 0] 23))
  have Hq7 := hide (Hq6.out.alloc (.cells #[.int .i64 0, .int .i64 0] 23))
  have Hr7 := hide (Blk.new w6 23 #[.int .i64 0, .int .i64 0])
  generalize w6.alloc (.cells #[.int .i64 0, .int .i64 0] 23) = w7 at *
  generalize w6.heap.size = Ar at *
  clear HB6 HG6 Hp6 Hq6
  refine (Open_any keyT [120] (by decide) (by decide) _ HG7.out).mono ?_
  rw [openE_x, openX_x, openY_x]
  rintro e w8 ⟨rfl, hb⟩
  have HB8 := hide (below_to HB7.out (Nat.le_refl _) hb)
  have HG8 := hide (HG7.out.to hb)
  have Hp8 := hide (Hp7.out.to hb)
  have Hq8 := hide (Hq7.out.to hb)
  have Hr8 := hide (Hr7.out.to hb)
  clear hb HB7 HG7 Hp7 Hq7 Hr7
  unfold pval
  have p0 := Hp8.out.cell 0
  have p1 := Hp8.out.cell 1
  have p2 := Hp8.out.lt
  have p3 := Nat.ne_of_lt p2
  have q0 := Hq8.out.cell 0
  have q1 := Hq8.out.cell 1
  have q2 := Hq8.out.lt
  have q3 := Nat.ne_of_lt q2
  have r0 := Hr8.out.cell 0
  have r1 := Hr8.out.cell 1
  have r2 := Hr8.out.lt
  have r3 := Nat.ne_of_lt r2
  go_wp2_with fail
  clear p0 p1 p2 p3
  clear q0 q1 q2 q3
  clear r0 r1 r2 r3
  have HB9 := hide (below_alloc HB8.out (Nat.le_refl _) (.cells #[.int .i64 0, .int .i64 0] 23))
  have HG9 := hide (HG8.out.alloc (.cells #[.int .i64 0, .int .i64 0] 23))
  have Hp9 := hide (Hp8.out.alloc (.cells #[.int .i64 0, .int .i64 0] 23))
  have Hq9 := hide (Hq8.out.alloc (.cells #[.int .i64 0, .int .i64 0] 23))
  have Hr9 := hide (Hr8.out.alloc (.cells #[.int .i64 0, .int .i64 0] 23))
  have Hs9 := hide (Blk.new w8 23 #[.int .i64 0, .int .i64 0])
  generalize w8.alloc (.cells #[.int .i64 0, .int .i64 0] 23) = w9 at *
  generalize w8.heap.size = As at *
  clear HB8 HG8 Hp8 Hq8 Hr8
  refine (Lock_any keyT [120] 7 12 (by decide) (by decide) _ HG9.out).mono ?_
  rw [lockE_x, lockP_x]
  rintro e w10 ⟨rfl, hb⟩
  have HB10 := hide (below_to HB9.out (Nat.le_refl _) hb)
  have HG10 := hide (HG9.out.to hb)
  have Hp10 := hide (Hp9.out.to hb)
  have Hq10 := hide (Hq9.out.to hb)
  have Hr10 := hide (Hr9.out.to hb)
  have Hs10 := hide (Hs9.out.to hb)
  clear hb HB9 HG9 Hp9 Hq9 Hr9 Hs9
  have p0 := Hp10.out.cell 0
  have p1 := Hp10.out.cell 1
  have p2 := Hp10.out.lt
  have p3 := Nat.ne_of_lt p2
  have q0 := Hq10.out.cell 0
  have q1 := Hq10.out.cell 1
  have q2 := Hq10.out.lt
  have q3 := Nat.ne_of_lt q2
  have r0 := Hr10.out.cell 0
  have r1 := Hr10.out.cell 1
  have r2 := Hr10.out.lt
  have r3 := Nat.ne_of_lt r2
  have s0 := Hs10.out.cell 0
  have s1 := Hs10.out.cell 1
  have s2 := Hs10.out.lt
  have s3 := Nat.ne_of_lt s2
  go_wp2_with fail
  clear p0 p1 p2 p3
  clear q0 q1 q2 q3
  clear r0 r1 r2 r3
  clear s0 s1 s2 s3
  refine (Lock_any keyT saltT 7 32768 (by decide) HSl.out _ HG10.out).mono ?_
  rw [lockE_far, lockP_far]
  rintro e w11 ⟨rfl, hb⟩
  have HB11 := hide (below_to HB10.out (Nat.le_refl _) hb)
  have HG11 := hide (HG10.out.to hb)
  have Hp11 := hide (Hp10.out.to hb)
  have Hq11 := hide (Hq10.out.to hb)
  have Hr11 := hide (Hr10.out.to hb)
  have Hs11 := hide (Hs10.out.to hb)
  clear hb HB10 HG10 Hp10 Hq10 Hr10 Hs10
  have hvs : (bs headV).size = 42 := by rw [bs_size, headV_len]
  have p0 := Hp11.out.cell 0
  have p1 := Hp11.out.cell 1
  have p2 := Hp11.out.lt
  have p3 := Nat.ne_of_lt p2
  have q0 := Hq11.out.cell 0
  have q1 := Hq11.out.cell 1
  have q2 := Hq11.out.lt
  have q3 := Nat.ne_of_lt q2
  have r0 := Hr11.out.cell 0
  have r1 := Hr11.out.cell 1
  have r2 := Hr11.out.lt
  have r3 := Nat.ne_of_lt r2
  have s0 := Hs11.out.cell 0
  have s1 := Hs11.out.cell 1
  have s2 := Hs11.out.lt
  have s3 := Nat.ne_of_lt s2
  go_wp2_with fail
  clear p0 p1 p2 p3
  clear q0 q1 q2 q3
  clear r0 r1 r2 r3
  clear s0 s1 s2 s3
  refine (vIs_any headV (by have := HVl.out; omega) _).mono ?_
  rw [head_isV]
  rintro e w12 ⟨rfl, hb⟩
  have HB12 := hide (below_to HB11.out (Nat.le_refl _) hb)
  have HG12 := hide (HG11.out.to hb)
  have Hp12 := hide (Hp11.out.to hb)
  have Hq12 := hide (Hq11.out.to hb)
  have Hr12 := hide (Hr11.out.to hb)
  have Hs12 := hide (Hs11.out.to hb)
  clear hb HB11 HG11 Hp11 Hq11 Hr11 Hs11
  have p0 := Hp12.out.cell 0
  have p1 := Hp12.out.cell 1
  have p2 := Hp12.out.lt
  have p3 := Nat.ne_of_lt p2
  have q0 := Hq12.out.cell 0
  have q1 := Hq12.out.cell 1
  have q2 := Hq12.out.lt
  have q3 := Nat.ne_of_lt q2
  have r0 := Hr12.out.cell 0
  have r1 := Hr12.out.cell 1
  have r2 := Hr12.out.lt
  have r3 := Nat.ne_of_lt r2
  have s0 := Hs12.out.cell 0
  have s1 := Hs12.out.cell 1
  have s2 := Hs12.out.lt
  have s3 := Nat.ne_of_lt s2
  go_wp2_with fail
  go_ret
  exact ⟨rfl, HB12.out⟩
end Go.Proofs.YtdgbnplieaaokaaGreatDoor
