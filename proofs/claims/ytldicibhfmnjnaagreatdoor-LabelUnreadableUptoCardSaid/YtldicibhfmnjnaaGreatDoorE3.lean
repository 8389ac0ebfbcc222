/- Walk of chapter 46: LabelUnreadable. -/
import Derived.Test.YtldicibhfmnjnaaGreatDoorE2
set_option linter.unusedVariables false
set_option linter.unusedSimpArgs false
namespace Go.Proofs.YtldicibhfmnjnaaGreatDoor
open Go.RowKit
set_option maxRecDepth 100000 in
set_option maxHeartbeats 4000000 in
theorem unreadable_any (p : List UInt8) (hp : p.length ≤ 1099511627776) (a b c : Nat) (ha : a < 256) (hb : b < 256) (hc : c < 256) (w : World) (hg : Glob w) : Calls Tryz.prog 5 #[.string (bs p), .int .u8 (a : Int), .int .u8 (b : Int), .int .u8 (c : Int)] w fun e w' => e = .returned (.bool true) ∧ Below w.heap.size w w' := by
  have CH := head_any w hg
  have hz : (bs p).size = p.length := bs_size p
  have hbe : (bs []).toList.isEmpty = true := by rw [bs_toList]; rfl
  have CW := fun w => Write_any p hp w
  cases hcan : canW p with
  | false =>
    rw [(write_no hcan).1, (write_no hcan).2] at CW
    clear hcan
    go_enter Tryz.func5, Tryz.ntmps5
    go_wp2_with fail
    refine CH.mono ?_
    rintro e w0 ⟨rfl, hb⟩
    have HB0 := hide hb
    clear hb CH hg
    go_wp2_with fail
    refine (CW _).mono ?_
    rintro e w1 ⟨rfl, hb⟩
    have HB1 := hide (below_to HB0.out (Nat.le_refl _) hb)
    clear hb CW HB0
    go_wp2_with fail
    go_ret
    exact ⟨rfl, HB1.out⟩
  | true =>
    rw [(write_ok hcan).1, (write_ok hcan).2] at CW
    have hn : p.length ≤ 34 := by have hc := hcan; unfold canW at hc; simp at hc; omega
    have hzs : (bs (prt p)).size = p.length + 2 := by rw [bs_size, prt_len]
    have HCAN := hide hcan
    clear hcan
    have HP : Hid (prt p = prt p) := rfl
    go_enter Tryz.func5, Tryz.ntmps5
    go_wp2_with fail
    refine CH.mono ?_
    rintro e w0 ⟨rfl, hb⟩
    have HB0 := hide hb
    clear hb CH hg
    go_wp2_with fail
    refine (CW _).mono ?_
    rintro e w1 ⟨rfl, hb⟩
    have HB1 := hide (below_to HB0.out (Nat.le_refl _) hb)
    clear hb CW HB0
    go_wp2_with fail
    go_quiet (fail)
    obtain ⟨i, hi⟩ : ∃ i, a % (p.length + 2) = i := ⟨_, rfl⟩
    obtain ⟨j, hj⟩ : ∃ j, b % (p.length + 2) = j := ⟨_, rfl⟩
    obtain ⟨k, hk⟩ : ∃ k, c % (p.length + 2) = k := ⟨_, rfl⟩
    have il : i < (prt p).length := by rw [prt_len, ← hi]; exact Nat.mod_lt _ (by omega)
    have jl : j < (prt p).length := by rw [prt_len, ← hj]; exact Nat.mod_lt _ (by omega)
    have kl : k < (prt p).length := by rw [prt_len, ← hk]; exact Nat.mod_lt _ (by omega)
    have hi' : (a : Int) % ((p.length : Int) + 2) = (i : Int) := by rw [← hi, Int.natCast_emod]; rfl
    have hj' : (b : Int) % ((p.length : Int) + 2) = (j : Int) := by rw [← hj, Int.natCast_emod]; rfl
    have hk' : (c : Int) % ((p.length : Int) + 2) = (k : Int) := by rw [← hk, Int.natCast_emod]; rfl
    rw [hi', hj', hk']
    have pl : (prt p).length ≤ 36 := by rw [prt_len]; omega
    clear hi hj hk hi' hj' hk' hzs
    have W1 : ∀ w, Calls Tryz.prog 20 #[.string (bs (prt p)), .int .i64 (i : Int), .int .u8 63] w fun e w' => e = .returned (.string (bs ((prt p).set i 63))) ∧ Below w.heap.size w w' := fun w => with_any (prt p) i 63 il (by omega) w
    have W2 : ∀ w, Calls Tryz.prog 20 #[.string (bs ((prt p).set i 63)), .int .i64 (j : Int), .int .u8 63] w fun e w' => e = .returned (.string (bs (((prt p).set i 63).set j 63))) ∧ Below w.heap.size w w' := fun w => with_any ((prt p).set i 63) j 63 (by simpa using jl) (by simp; omega) w
    have W3 : ∀ w, Calls Tryz.prog 20 #[.string (bs (((prt p).set i 63).set j 63)), .int .i64 (k : Int), .int .u8 63] w fun e w' => e = .returned (.string (bs ((((prt p).set i 63).set j 63).set k 63))) ∧ Below w.heap.size w w' := fun w => with_any (((prt p).set i 63).set j 63) k 63 (by simpa using kl) (by simp; omega) w
    have R1 := fun w => Read_any ((prt p).set i 63) (by simp; omega) w
    rw [(un_one HCAN.out i).1, (un_one HCAN.out i).2] at R1
    have R2 := fun w => Read_any (((prt p).set i 63).set j 63) (by simp; omega) w
    rw [(un_two HCAN.out i j).1, (un_two HCAN.out i j).2] at R2
    have R3 := fun w => Read_any ((((prt p).set i 63).set j 63).set k 63) (by simp; omega) w
    have HD : Hid ((i ≠ j ∧ j ≠ k ∧ i ≠ k) → readE ((((prt p).set i 63).set j 63).set k 63) = 20 ∧ readP ((((prt p).set i 63).set j 63).set k 63) = []) := fun h => un_three HCAN.out i j k il jl kl h.1 h.2.1 h.2.2
    have HE : Hid (¬ (i ≠ j ∧ j ≠ k ∧ i ≠ k) → readE ((((prt p).set i 63).set j 63).set k 63) = 0 ∧ readP ((((prt p).set i 63).set j 63).set k 63) = p) := fun h => un_three' HCAN.out i j k h
    clear il jl kl pl HP hn hz
    generalize readE ((((prt p).set i 63).set j 63).set k 63) = E at *
    generalize readP ((((prt p).set i 63).set j 63).set k 63) = Q at *
    generalize bs ((((prt p).set i 63).set j 63).set k 63) = S3 at *
    generalize bs (((prt p).set i 63).set j 63) = S2 at *
    generalize bs ((prt p).set i 63) = S1 at *
    generalize bs (prt p) = S0 at *
    have HB2 : Hid (Below w.heap.size w (w1.drewN nq)) := below_drewN HB1.out nq
    clear HB1
    generalize w1.drewN nq = w2 at *
    go_wp2_with fail
    refine (W1 _).mono ?_
    rintro e v1 ⟨rfl, hb⟩
    have C1 := hide (below_to HB2.out (Nat.le_refl _) hb)
    clear hb HB2
    go_wp2_with fail
    refine (R1 _).mono ?_
    rintro e v2 ⟨rfl, hb⟩
    have C2 := hide (below_to C1.out (Nat.le_refl _) hb)
    clear hb C1
    go_wp2_with fail
    refine (W1 _).mono ?_
    rintro e v3 ⟨rfl, hb⟩
    have C3 := hide (below_to C2.out (Nat.le_refl _) hb)
    clear hb C2
    go_wp2_with fail
    refine (W2 _).mono ?_
    rintro e v4 ⟨rfl, hb⟩
    have C4 := hide (below_to C3.out (Nat.le_refl _) hb)
    clear hb C3
    go_wp2_with fail
    refine (R2 _).mono ?_
    rintro e v5 ⟨rfl, hb⟩
    have C5 := hide (below_to C4.out (Nat.le_refl _) hb)
    clear hb C4
    go_wp2_with fail
    refine (W1 _).mono ?_
    rintro e v6 ⟨rfl, hb⟩
    have C6 := hide (below_to C5.out (Nat.le_refl _) hb)
    clear hb C5
    go_wp2_with fail
    refine (W2 _).mono ?_
    rintro e v7 ⟨rfl, hb⟩
    have C7 := hide (below_to C6.out (Nat.le_refl _) hb)
    clear hb C6
    go_wp2_with fail
    refine (W3 _).mono ?_
    rintro e v8 ⟨rfl, hb⟩
    have C8 := hide (below_to C7.out (Nat.le_refl _) hb)
    clear hb C7
    go_wp2_with fail
    refine (R3 _).mono ?_
    rintro e v9 ⟨rfl, hb⟩
    have C9 := hide (below_to C8.out (Nat.le_refl _) hb)
    clear hb C8 W1 W2 W3 R1 R2 R3
    by_cases hd : i ≠ j ∧ j ≠ k ∧ i ≠ k
    · obtain ⟨rfl, rfl⟩ := HD.out hd
      have d1 : ((i : Int) != (j : Int)) = true := by rw [bne_iff_ne]; omega
      have d2 : ((j : Int) != (k : Int)) = true := by rw [bne_iff_ne]; omega
      have d3 : ((i : Int) != (k : Int)) = true := by rw [bne_iff_ne]; omega
      clear hd HD HE
      go_wp2_with fail
      go_ret
      exact ⟨rfl, C9.out⟩
    · obtain ⟨rfl, rfl⟩ := HE.out hd
      have hd' : i = j ∨ j = k ∨ i = k := by omega
      clear hd HD HE
      rcases hd' with rfl | rfl | rfl
      · go_wp2_with fail
        all_goals go_ret
        all_goals exact ⟨rfl, C9.out⟩
      · by_cases h : i = j
        · subst h
          go_wp2_with fail
          go_ret
          exact ⟨rfl, C9.out⟩
        · have d1 : ((i : Int) != (j : Int)) = true := by rw [bne_iff_ne]; omega
          clear h
          go_wp2_with fail
          go_ret
          exact ⟨rfl, C9.out⟩
      · by_cases h : i = j
        · subst h
          go_wp2_with fail
          go_ret
          exact ⟨rfl, C9.out⟩
        · have d1 : ((i : Int) != (j : Int)) = true := by rw [bne_iff_ne]; omega
          have d2 : ((j : Int) != (i : Int)) = true := by rw [bne_iff_ne]; omega
          clear h
          go_wp2_with fail
          go_ret
          exact ⟨rfl, C9.out⟩
end Go.Proofs.YtldicibhfmnjnaaGreatDoor
