/- Walk of package label: Read, the ways out ahead. -/
import Derived.Test.YtldicibhfmnjnaaGreatDoorC7
set_option linter.unusedVariables false
set_option linter.unusedSimpArgs false
namespace Go.Proofs.YtldicibhfmnjnaaGreatDoor
open Go.RowKit

set_option maxRecDepth 100000 in
set_option maxHeartbeats 8000000 in
theorem Read_out (s : List UInt8) (hs : s.length ≤ 1099511627776) (h : ¬ (s.all okC = true ∧ 3 ≤ s.length ∧ s.length ≤ 36)) (w : World) : Calls Tryz.prog 18 #[.string (bs s)] w fun e w' => e = .returned (.tuple #[.string (bs (readP s)), .int .i64 (readE s)]) ∧ Below w.heap.size w w' := by
  have HN := hide (canR_not h)
  by_cases hall : s.all okC = true
  · have CV := values_ok hs hall w
    by_cases h3 : 3 ≤ s.length
    · have e1 : decide ((s.length : Int) < 3) = false := by simp; omega
      have h36 : ¬ s.length ≤ 36 := fun h' => h ⟨hall, h3, h'⟩
      have e2 : decide ((36 : Int) < (s.length : Int)) = true := by simp; omega
      clear hall h h36 h3
      go_enter Tryz.func18, Tryz.ntmps18
      go_wp2_with fail
      refine CV.mono ?_
      rintro e w1 ⟨v, rfl, ho, hb⟩
      obtain ⟨a, c, hv⟩ := own_shape ho
      rw [hv]
      have HB := hide hb
      clear CV ho hv hb
      go_wp2_with fail
      go_ret2
      exact ⟨by rw [HN.out.1, HN.out.2]; rfl, HB.out⟩
    · have e1 : decide ((s.length : Int) < 3) = true := by simp; omega
      clear hall h h3
      go_enter Tryz.func18, Tryz.ntmps18
      go_wp2_with fail
      refine CV.mono ?_
      rintro e w1 ⟨v, rfl, ho, hb⟩
      obtain ⟨a, c, hv⟩ := own_shape ho
      rw [hv]
      have HB := hide hb
      clear CV ho hv hb
      go_wp2_with fail
      go_ret2
      exact ⟨by rw [HN.out.1, HN.out.2]; rfl, HB.out⟩
  · have CV := values_bad hs hall w
    clear hall h
    go_enter Tryz.func18, Tryz.ntmps18
    go_wp2_with fail
    refine CV.mono ?_
    rintro e w1 ⟨rfl, hb⟩
    have HB := hide hb
    clear CV hb
    go_wp2_with fail
    go_ret2
    exact ⟨by rw [HN.out.1, HN.out.2]; rfl, HB.out⟩
end Go.Proofs.YtldicibhfmnjnaaGreatDoor
