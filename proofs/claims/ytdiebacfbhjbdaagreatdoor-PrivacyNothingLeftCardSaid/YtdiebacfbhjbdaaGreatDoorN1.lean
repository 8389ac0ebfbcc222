/- Walks of package privacy: named. -/
import Derived.Test.YtdiebacfbhjbdaaGreatDoorY6
import Derived.Test.YtdiebacfbhjbdaaGreatDoorSl
import Derived.Test.YtdiebacfbhjbdaaGreatDoorP2
import Derived.Test.YtdiebacfbhjbdaaGreatDoorDig5
import Derived.Test.YtdiebacfbhjbdaaGreatDoorT3
set_option linter.unusedVariables false
set_option linter.unusedSimpArgs false
namespace Go.Proofs.YtdiebacfbhjbdaaGreatDoor
open Go.RowKit

set_option maxRecDepth 100000 in
set_option maxHeartbeats 4000000 in
theorem named_any (d : List UInt8) (hl : d.length ≤ 140737488355328) (w : World) : Calls Tryz.prog 45 #[.string (bs d)] w fun e w' => e = .returned (.bool (isNm d)) ∧ Below w.heap.size w w' := by
  have CL := fun w => Lex_any d hl w
  by_cases hE : (lexP d).2.1 ≠ 0
  · have HV : Hid (isNm d = false) := by
      show _ = _
      rw [← Bool.not_eq_true]; intro h; rw [lex_of_nm h] at hE; exact hE rfl
    have e1 : ((lexP d).2.1 == 0) = false := by rw [beq_eq_false_iff_ne]; exact hE
    clear hE
    generalize (lexP d).2.1 = E at *
    go_enter Tryz.func45, Tryz.ntmps45
    go_wp2_with fail
    refine (CL _).mono ?_
    rintro e w2 ⟨v, rfl, hv, hb⟩
    have HB := hide hb
    clear hv hb CL
    go_wp2_with fail
    go_ret
    exact ⟨ret_bool (by rw [HV.out]), HB.out⟩
  have hE0 : (lexP d).2.1 = 0 := Classical.byContradiction hE
  rw [hE0] at CL
  by_cases hn : (lexP d).1.length ≠ 1
  · have HV : Hid (isNm d = false) := by
      show _ = _
      rw [← Bool.not_eq_true]; intro h; rw [lex_of_nm h] at hn; exact hn rfl
    clear hE hE0
    go_enter Tryz.func45, Tryz.ntmps45
    go_wp2_with fail
    refine (CL _).mono ?_
    rintro e w2 ⟨v, rfl, hv, hb⟩
    have HB := hide hb
    obtain ⟨A, c, rfl⟩ : ∃ A c, v = .slice A (lexP d).1.length c := by
      rcases hv with ⟨h1, A, c, h2⟩ | ⟨b, c, h1, _⟩
      · rw [h1]; exact ⟨A, c, h2⟩
      · exact ⟨_, _, h1⟩
    have e1 : (((lexP d).1.length : Int) == 1) = false := by rw [beq_eq_false_iff_ne]; omega
    clear hv hb CL hn
    generalize (lexP d).1.length = n at *
    go_wp2_with fail
    go_ret
    exact ⟨ret_bool (by rw [HV.out]), HB.out⟩
  obtain ⟨⟨xk, xa, xn, xs⟩, hx⟩ : ∃ x, (lexP d).1 = [x] := by
    match hl : (lexP d).1, (Classical.byContradiction hn : (lexP d).1.length = 1) with
    | [x], _ => exact ⟨x, rfl⟩
  rw [hx] at CL
  have hone : ∀ {w2 : World} {v : Value}, TokRow w2 v [⟨xk, xa, xn, xs⟩] → ∃ tb tc, v = .slice (some ⟨tb, 0, none⟩) 1 tc ∧ w2.cell? ⟨tb, 0, none⟩ = some (.int .i64 xk) ∧ w2.cell? ⟨tb, 3, none⟩ = some (.string (bs xs)) := fun {w2 v} hv => by
    rcases hv with ⟨h1, _⟩ | ⟨b, c, h1, h2, h3⟩
    · cases h1
    · exact ⟨b, c, h1, h3 0 _ rfl 0 _ rfl, h3 0 _ rfl 3 _ rfl⟩
  by_cases hk : xk = 1
  · by_cases ht : xs = d
    · have HV : Hid (isNm d = true) := by
        show _ = _
        subst hk; subst ht
        exact nm_of_lex hE0 hx
      have e1 : ((bs xs).toList == (bs d).toList) = true := by rw [ht]; simp
      clear hE hE0 hn hx ht
      subst hk
      go_enter Tryz.func45, Tryz.ntmps45
      go_wp2_with fail
      refine (CL _).mono ?_
      rintro e w2 ⟨v, rfl, hv, hb⟩
      have HB := hide hb
      obtain ⟨tb, tc, rfl, t0, t3⟩ := hone hv
      clear hv hb CL hone
      go_wp2_with fail
      go_ret
      exact ⟨ret_bool (by rw [HV.out]), HB.out⟩
    · have HV : Hid (isNm d = false) := by
        show _ = _
        rw [← Bool.not_eq_true]; intro h; rw [lex_of_nm h] at hx
        simp at hx; exact ht hx.2.2.2.symm
      have e1 : ((bs xs).toList == (bs d).toList) = false := by rw [beq_eq_false_iff_ne, bs_toList, bs_toList]; exact ht
      clear hE hE0 hn hx ht
      subst hk
      go_enter Tryz.func45, Tryz.ntmps45
      go_wp2_with fail
      refine (CL _).mono ?_
      rintro e w2 ⟨v, rfl, hv, hb⟩
      have HB := hide hb
      obtain ⟨tb, tc, rfl, t0, t3⟩ := hone hv
      clear hv hb CL hone
      go_wp2_with fail
      go_ret
      exact ⟨ret_bool (by rw [HV.out]), HB.out⟩
  · have HV : Hid (isNm d = false) := by
      show _ = _
      rw [← Bool.not_eq_true]; intro h; rw [lex_of_nm h] at hx
      simp at hx; exact hk hx.1.symm
    have e1 : (xk == 1) = false := by rw [beq_eq_false_iff_ne]; exact hk
    clear hE hE0 hn hx hk
    go_enter Tryz.func45, Tryz.ntmps45
    go_wp2_with fail
    refine (CL _).mono ?_
    rintro e w2 ⟨v, rfl, hv, hb⟩
    have HB := hide hb
    obtain ⟨tb, tc, rfl, t0, t3⟩ := hone hv
    clear hv hb CL hone
    go_wp2_with fail
    go_ret
    exact ⟨ret_bool (by rw [HV.out]), HB.out⟩
end Go.Proofs.YtdiebacfbhjbdaaGreatDoor
