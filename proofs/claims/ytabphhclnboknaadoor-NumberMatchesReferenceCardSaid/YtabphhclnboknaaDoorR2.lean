/- Walks of the reference of layer 22: Odd, Less, Compare, Group, Text (printed by genr2.py). -/
import Derived.Test.YtabphhclnboknaaDoorR1
set_option linter.unusedVariables false
set_option linter.unusedSimpArgs false
namespace Go.Proofs.YtabphhclnboknaaDoor
open Go.RowKit

theorem bytesLess_rank {l m : List UInt8} (h : letterB l = true) (h' : letterB m = true) : Op.bytesLess l m = decide (rank l < rank m) := by
  rcases (letterB_iff l).1 h with rfl | ⟨c, rfl, h1, h2⟩ <;> rcases (letterB_iff m).1 h' with rfl | ⟨d, rfl, h3, h4⟩
  · rfl
  · show true = decide ((0 : Int) < (d.toNat : Int) - 96)
    rw [decide_eq_true (by omega)]
  · show false = decide ((c.toNat : Int) - 96 < (0 : Int))
    rw [decide_eq_false (by omega)]
  · rw [less_one]
    exact decide_eq_decide.2 (by simp only [rank]; omega)
set_option maxHeartbeats 4000000 in
theorem rLess_any (a b : HN) (ha : a.valid = true) (hb : b.valid = true) (w : World) : Calls Tryd.prog 31 #[hval a, hval b] w fun e w' => e = .returned (.bool (a.lt b)) ∧ Below w.heap.size w w' := by
  have HB := hide (((Below.refl w.heap.size w).alloc (Nat.le_refl _) (.cells #[.int .i64 a.n, .string ⟨a.l.toArray⟩, .int .i64 a.num, .int .i64 a.den] 23)).alloc (by simp) (.cells #[.int .i64 b.n, .string ⟨b.l.toArray⟩, .int .i64 b.num, .int .i64 b.den] 23))
  have HE := hide (less_key ha hb)
  obtain ⟨a1, a2, a3, a4⟩ := (valid_iff a).1 ha
  obtain ⟨b1, b2, b3, b4⟩ := (valid_iff b).1 hb
  have HR := hide (bytesLess_rank a3 b3)
  have HI := hide (rank_inj a3 b3)
  obtain ⟨p1, p2, p3, p4, p5⟩ := place_den a4
  obtain ⟨q1, q2, q3, q4, q5⟩ := place_den b4
  simp only at p1 p2 p3 p4 p5 q1 q2 q3 q4 q5
  clear p1 q1 a4 b4 ha hb a3 b3
  by_cases h1 : a.n = b.n
  · have e1 : (a.n != b.n) = false := by rw [h1]; simp
    by_cases h2 : rank a.l = rank b.l
    · have e2 : (a.l == b.l) = true := by rw [HI.out h2]; simp
      have HF : Hid (a.lt b = fracLtB (a.num, a.den) (b.num, b.den)) := HE.out.symm.trans (by unfold lessB; rw [if_neg (by simpa using h1), if_neg (by simpa using h2)])
      clear HE HR HI h1 h2
      by_cases h3 : a.den = 0
      · have f1 : (a.den == 0) = true := by rw [h3]; rfl
        have HV : Hid (a.lt b = decide (0 < b.den)) := HF.out.trans (by unfold fracLtB; rw [if_pos (.inl h3)]; simp [h3])
        clear HF
        by_cases h5 : 0 < b.den
        · have f3 : decide (0 < b.den) = true := decide_eq_true h5
          rw [f3] at HV
          clear h5 h3
          go_enter Tryd.func31, Tryd.ntmps31
          unfold hval
          go_wp2_with fail
          go_ret
          exact ⟨ret_bool HV.out.symm, HB.out⟩
        · have f3 : decide (0 < b.den) = false := decide_eq_false h5
          rw [f3] at HV
          clear h5 h3
          go_enter Tryd.func31, Tryd.ntmps31
          unfold hval
          go_wp2_with fail
          go_ret
          exact ⟨ret_bool HV.out.symm, HB.out⟩
      · have f1 : (a.den == 0) = false := by rw [beq_eq_false_iff_ne]; exact h3
        by_cases h4 : b.den = 0
        · have f2 : (b.den == 0) = true := by rw [h4]; rfl
          have HV : Hid (a.lt b = false) := HF.out.trans (by unfold fracLtB; rw [if_pos (.inr h4)]; simp [h3])
          clear HF h3 h4
          go_enter Tryd.func31, Tryd.ntmps31
          unfold hval
          go_wp2_with fail
          go_ret
          exact ⟨ret_bool HV.out.symm, HB.out⟩
        · have f2 : (b.den == 0) = false := by rw [beq_eq_false_iff_ne]; exact h4
          have HV : Hid (a.lt b = decide (a.num * b.den < b.num * a.den)) := HF.out.trans (by unfold fracLtB; rw [if_neg (by rintro (h | h); exact h3 h; exact h4 h)])
          have m1 : 0 ≤ a.num * b.den := Int.mul_nonneg p4 q2
          have m2 : a.num * b.den ≤ 81 := Int.le_trans (Int.mul_le_mul p5 q3 q2 (by decide)) (by decide)
          have m3 : 0 ≤ b.num * a.den := Int.mul_nonneg q4 p2
          have m4 : b.num * a.den ≤ 81 := Int.le_trans (Int.mul_le_mul q5 p3 p2 (by decide)) (by decide)
          clear HF h3 h4 p2 p3 p4 p5 q2 q3 q4 q5
          go_enter Tryd.func31, Tryd.ntmps31
          unfold hval
          go_wp2_with fail
          go_ret
          exact ⟨ret_bool HV.out.symm, HB.out⟩
    · have e2 : (a.l == b.l) = false := by rw [beq_eq_false_iff_ne]; intro h; rw [h] at h2; exact h2 rfl
      have HV : Hid (a.lt b = Op.bytesLess a.l b.l) := HE.out.symm.trans (by unfold lessB; rw [if_neg (by simpa using h1), if_pos h2, HR.out])
      clear HE HR HI h1 h2
      go_enter Tryd.func31, Tryd.ntmps31
      unfold hval
      go_wp2_with fail
      go_ret
      exact ⟨ret_bool HV.out.symm, HB.out⟩
  · have e1 : (a.n != b.n) = true := by simpa using h1
    have HV : Hid (a.lt b = decide (a.n < b.n)) := HE.out.symm.trans (by unfold lessB; rw [if_pos h1])
    clear HE HR HI h1
    go_enter Tryd.func31, Tryd.ntmps31
    unfold hval
    go_wp2_with fail
    go_ret
    exact ⟨ret_bool HV.out.symm, HB.out⟩
set_option maxHeartbeats 2000000 in
theorem rGroup_any (a : HN) (h : 0 ≤ a.den) (w : World) : Calls Tryd.prog 43 #[hval a] w fun e w' => e = .returned (.int .i64 (group a)) ∧ Below w.heap.size w w' := by
  have HB := hide (((Below.refl w.heap.size w).alloc (Nat.le_refl _) (.cells #[.int .i64 a.n, .string ⟨a.l.toArray⟩, .int .i64 a.num, .int .i64 a.den] 23)))
  by_cases h1 : a.l = []
  · have e1 : a.l.isEmpty = true := by rw [h1]; rfl
    by_cases h2 : a.den = 0
    · have e2 : decide (0 < a.den) = false := decide_eq_false (by omega)
      have HV : Hid (group a = 0) := by show _ = _; unfold group; rw [if_pos h1, if_pos h2]
      clear h1 h2 h
      go_enter Tryd.func43, Tryd.ntmps43
      unfold hval
      go_wp2_with fail
      go_ret
      exact ⟨ret_int HV.out.symm, HB.out⟩
    · have e2 : decide (0 < a.den) = true := decide_eq_true (by omega)
      have HV : Hid (group a = 2) := by show _ = _; unfold group; rw [if_pos h1, if_neg h2]
      clear h1 h2 h
      go_enter Tryd.func43, Tryd.ntmps43
      unfold hval
      go_wp2_with fail
      go_ret
      exact ⟨ret_int HV.out.symm, HB.out⟩
  · have e1 : a.l.isEmpty = false := by cases hl : a.l; exact absurd hl h1; rfl
    by_cases h2 : a.den = 0
    · have e2 : decide (0 < a.den) = false := decide_eq_false (by omega)
      have HV : Hid (group a = 1) := by show _ = _; unfold group; rw [if_neg h1, if_pos h2]
      clear h1 h2 h
      go_enter Tryd.func43, Tryd.ntmps43
      unfold hval
      go_wp2_with fail
      go_ret
      exact ⟨ret_int HV.out.symm, HB.out⟩
    · have e2 : decide (0 < a.den) = true := decide_eq_true (by omega)
      have HV : Hid (group a = 3) := by show _ = _; unfold group; rw [if_neg h1, if_neg h2]
      clear h1 h2 h
      go_enter Tryd.func43, Tryd.ntmps43
      unfold hval
      go_wp2_with fail
      go_ret
      exact ⟨ret_int HV.out.symm, HB.out⟩
set_option maxHeartbeats 2000000 in
theorem rOdd_any (a : HN) (hl : a.fit) (w : World) : Calls Tryd.prog 22 #[hval a] w fun e w' => e = .returned (.bool a.odd) ∧ Below w.heap.size w w' := by
  have HX := hide (HBox.new w a)
  have HB := hide (((Below.refl w.heap.size w).alloc (Nat.le_refl _) (.cells #[.int .i64 a.n, .string ⟨a.l.toArray⟩, .int .i64 a.num, .int .i64 a.den] 23)))
  have CV := fun w => rValid_any a w hl
  clear hl
  cases h1 : a.valid
  · have HV : Hid (a.odd = false) := by unfold HN.odd; rw [h1]; rfl
    rw [h1] at CV
    clear h1
    go_enter Tryd.func22, Tryd.ntmps22
    unfold hval
    go_wp2_with fail
    refine (CV _).mono ?_
    rintro e w1 ⟨rfl, hb⟩
    have HB1 := hide (HB.out.trans (hb.mono HB.out.size))
    clear hb
    go_wp2_with fail
    go_ret
    exact ⟨ret_bool HV.out.symm, HB1.out⟩
  · have HV : Hid (a.odd = decide (a.n % 2 = 1)) := by unfold HN.odd; rw [h1]; rfl
    obtain ⟨n1, n2, _⟩ := (valid_iff a).1 h1
    rw [h1] at CV
    clear h1
    go_enter Tryd.func22, Tryd.ntmps22
    unfold hval
    go_wp2_with fail
    refine (CV _).mono ?_
    rintro e w1 ⟨rfl, hb⟩
    have HB1 := hide (HB.out.trans (hb.mono HB.out.size))
    have c0 := (HX.out.below hb (by simp)).facts.1
    clear hb
    go_wp2_with fail
    go_ret
    refine ⟨ret_bool ?_, HB1.out⟩
    rw [HV.out]
    simp [Int.tmod_eq_emod_of_nonneg (show 0 ≤ a.n by omega), BEq.beq]
set_option maxHeartbeats 4000000 in
theorem rCompare_any (a b : HN) (w : World) (ha : a.fit) (hb : b.fit) : Calls Tryd.prog 12 #[hval a, hval b] w fun e w' => e = .returned (.tuple #[.int .i64 (cmpV a b), .int .i64 (cmpE a b)]) ∧ Below w.heap.size w w' := by
  have HB := hide (((Below.refl w.heap.size w).alloc (Nat.le_refl _) (.cells #[.int .i64 a.n, .string ⟨a.l.toArray⟩, .int .i64 a.num, .int .i64 a.den] 23)).alloc (by simp) (.cells #[.int .i64 b.n, .string ⟨b.l.toArray⟩, .int .i64 b.num, .int .i64 b.den] 23))
  have HX := hide (hNew2 w a b)
  have VA := fun w => rValid_any a w ha
  have VB := fun w => rValid_any b w hb
  clear ha hb
  go_enter Tryd.func12, Tryd.ntmps12
  unfold hval
  go_wp2_with fail
  generalize (w.alloc (.cells #[.int .i64 a.n, .string ⟨a.l.toArray⟩, .int .i64 a.num, .int .i64 a.den] 23)).alloc (.cells #[.int .i64 b.n, .string ⟨b.l.toArray⟩, .int .i64 b.num, .int .i64 b.den] 23) = w1 at *
  obtain ⟨U, hU, g, u0, rfl, hgu, hi⟩ := cls w1
  obtain ⟨x0, x1, x2, x3⟩ := box_all hgu HX.out.1
  obtain ⟨y0, y1, y2, y3⟩ := box_all hgu HX.out.2
  have CA := cls_call hgu hi (fun w _ => VA w)
  have CB := cls_call hgu hi (fun w _ => VB w)
  unfold hval at CA CB
  cases h1 : a.valid
  · have HV : Hid (cmpV a b = 0 ∧ cmpE a b = 1) := by unfold cmpV cmpE; rw [h1]; exact ⟨rfl, rfl⟩
    rw [h1] at CA
    clear h1
    go_wp2_with (first | ((with_reducible refine (CA _).mono ?_); rintro e w' ⟨rfl, u, rfl⟩) | ((with_reducible refine (CB _).mono ?_); rintro e w' ⟨rfl, u, rfl⟩))
    go_ret2
    exact ⟨ret_two HV.out.1.symm HV.out.2.symm, HB.out.trans ((hgu _).mono HB.out.size)⟩
  cases h2 : b.valid
  · have HV : Hid (cmpV a b = 0 ∧ cmpE a b = 1) := by unfold cmpV cmpE; rw [h1, h2]; exact ⟨rfl, rfl⟩
    rw [h1] at CA
    rw [h2] at CB
    clear h1 h2
    go_wp2_with (first | ((with_reducible refine (CA _).mono ?_); rintro e w' ⟨rfl, u, rfl⟩) | ((with_reducible refine (CB _).mono ?_); rintro e w' ⟨rfl, u, rfl⟩))
    go_ret2
    exact ⟨ret_two HV.out.1.symm HV.out.2.symm, HB.out.trans ((hgu _).mono HB.out.size)⟩
  have CL := cls_call hgu hi (fun w _ => rLess_any a b h1 h2 w)
  have CM := cls_call hgu hi (fun w _ => rLess_any b a h2 h1 w)
  unfold hval at CL CM
  obtain ⟨k1, k2⟩ := cmpV_key h1 h2
  have HK := hide k1
  have HK2 := hide k2
  have L1 : a.lt b = decide (a.key < b.key) := by unfold HN.lt; rw [h1, h2]; rfl
  have L2 : b.lt a = decide (b.key < a.key) := by unfold HN.lt; rw [h1, h2]; rfl
  rw [L1] at CL
  rw [L2] at CM
  rw [h1] at CA
  rw [h2] at CB
  clear h1 h2 k1 k2 L1 L2
  by_cases hk : a.key < b.key
  · have HV : Hid (cmpV a b = -1) := HK.out.trans (by unfold sgn; rw [if_pos hk])
    rw [decide_eq_true hk] at CL
    clear hk
    go_wp2_with (first | ((with_reducible refine (CA _).mono ?_); rintro e w' ⟨rfl, u, rfl⟩) | ((with_reducible refine (CB _).mono ?_); rintro e w' ⟨rfl, u, rfl⟩) | ((with_reducible refine (CL _).mono ?_); rintro e w' ⟨rfl, u, rfl⟩))
    go_ret2
    exact ⟨ret_two HV.out.symm HK2.out.symm, HB.out.trans ((hgu _).mono HB.out.size)⟩
  · rw [decide_eq_false hk] at CL
    by_cases hk2 : b.key < a.key
    · have HV : Hid (cmpV a b = 1) := HK.out.trans (by unfold sgn; rw [if_neg hk, if_pos hk2])
      rw [decide_eq_true hk2] at CM
      clear hk hk2
      go_wp2_with (first | ((with_reducible refine (CA _).mono ?_); rintro e w' ⟨rfl, u, rfl⟩) | ((with_reducible refine (CB _).mono ?_); rintro e w' ⟨rfl, u, rfl⟩) | ((with_reducible refine (CL _).mono ?_); rintro e w' ⟨rfl, u, rfl⟩) | ((with_reducible refine (CM _).mono ?_); rintro e w' ⟨rfl, u, rfl⟩))
      go_ret2
      exact ⟨ret_two HV.out.symm HK2.out.symm, HB.out.trans ((hgu _).mono HB.out.size)⟩
    · have HV : Hid (cmpV a b = 0) := HK.out.trans (by unfold sgn; rw [if_neg hk, if_neg hk2])
      rw [decide_eq_false hk2] at CM
      clear hk hk2
      go_wp2_with (first | ((with_reducible refine (CA _).mono ?_); rintro e w' ⟨rfl, u, rfl⟩) | ((with_reducible refine (CB _).mono ?_); rintro e w' ⟨rfl, u, rfl⟩) | ((with_reducible refine (CL _).mono ?_); rintro e w' ⟨rfl, u, rfl⟩) | ((with_reducible refine (CM _).mono ?_); rintro e w' ⟨rfl, u, rfl⟩))
      go_ret2
      exact ⟨ret_two HV.out.symm HK2.out.symm, HB.out.trans ((hgu _).mono HB.out.size)⟩
end Go.Proofs.YtabphhclnboknaaDoor
