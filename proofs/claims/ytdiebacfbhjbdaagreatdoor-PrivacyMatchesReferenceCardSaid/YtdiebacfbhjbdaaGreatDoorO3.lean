/- Walks of the statements: PrivacyOnce. -/
import Derived.Test.YtdiebacfbhjbdaaGreatDoorO2
set_option linter.unusedVariables false
set_option linter.unusedSimpArgs false
namespace Go.Proofs.YtdiebacfbhjbdaaGreatDoor
open Go.RowKit

set_option maxRecDepth 100000 in
set_option maxHeartbeats 1000000 in
theorem once_law (log : List Ln) (hl0 : log.length ≤ 8796093022208) (p q : List UInt8) (v : Value) (w : World) (hv : LnsAt w v log) (hg : Glob w) :
    Calls Tryz.prog 5 #[v, .string (bs p), .string (bs q)] w fun e w' => e = .returned (.bool true) ∧ Below w.heap.size w w' := by
  have HB0 := hide (Below.refl w.heap.size w)
  have HS0 := hide hv
  have HG := hide hg
  clear hv hg
  go_enter Tryz.func5, Tryz.ntmps5
  go_wp2_with fail
  have C1 := head_any w HG.out
  refine C1.mono ?_
  rintro e w1 ⟨rfl, hb⟩
  have HB1 := hide (below_to HB0.out (Nat.le_refl _) hb)
  have HS1 := hide (HS0.out.to hb)
  clear hb C1 HB0 HS0
  go_wp2_with fail
  have HB2 := hide (below_alloc HB1.out (Nat.le_refl _) (.cells #[.string (bs p), .string (bs q)] 9))
  have HS2 := hide (HS1.out.to (below_one w1 (.cells #[.string (bs p), .string (bs q)] 9)))
  clear HB1 HS1
  cases hfew : shT [p, q] && fewG log with
  | false =>
    have CF : Calls Tryz.prog 12 #[v, .slice (some ⟨w1.heap.size, 0, none⟩) 2 2] (w1.alloc (.cells #[.string (bs p), .string (bs q)] 9)) fun e w' => e = .returned (.bool (shT [p, q] && fewG log)) ∧ Below (w1.alloc (.cells #[.string (bs p), .string (bs q)] 9)).heap.size (w1.alloc (.cells #[.string (bs p), .string (bs q)] 9)) w' := few_any log (Nat.le_trans hl0 (by decide)) [p, q] (by simp) v _ _ HS2.out (rows_new w1 1 9 ([p, q].map strV) (by simp [strV]) _ rfl 2 rfl)
    rw [hfew] at CF
    clear hfew hl0
    have C3 := CF
    refine C3.mono ?_
    rintro e w3 ⟨rfl, hb⟩
    have HB3 := hide (below_to HB2.out (Nat.le_refl _) hb)
    have HS3 := hide (HS2.out.to hb)
    clear hb C3 HB2 HS2
    go_wp2_with fail
    go_ret
    exact ⟨rfl, HB3.out⟩
  | true =>
    have CF : Calls Tryz.prog 12 #[v, .slice (some ⟨w1.heap.size, 0, none⟩) 2 2] (w1.alloc (.cells #[.string (bs p), .string (bs q)] 9)) fun e w' => e = .returned (.bool (shT [p, q] && fewG log)) ∧ Below (w1.alloc (.cells #[.string (bs p), .string (bs q)] 9)).heap.size (w1.alloc (.cells #[.string (bs p), .string (bs q)] 9)) w' := few_any log (Nat.le_trans hl0 (by decide)) [p, q] (by simp) v _ _ HS2.out (rows_new w1 1 9 ([p, q].map strV) (by simp [strV]) _ rfl 2 rfl)
    rw [hfew] at CF
    simp only [Bool.and_eq_true] at hfew
    obtain ⟨hl, hf0, hd0⟩ := few_facts hfew.2
    have lp := sh_facts hfew.1 p (by simp)
    have lq := sh_facts hfew.1 q (by simp)
    have HF := hide hf0
    have HD := hide hd0
    clear hfew hl0 hf0 hd0
    have C3 := CF
    refine C3.mono ?_
    rintro e w3 ⟨rfl, hb⟩
    have HB3 := hide (below_to HB2.out (Nat.le_refl _) hb)
    have HS3 := hide (HS2.out.to hb)
    clear hb C3 HB2 HS2
    go_wp2_with fail
    have CE := Erase_any log HF.out (by omega) p lp v w3 HS3.out (HG.out.to HB3.out)
    unfold EraseR at CE
    have C4 := CE
    refine C4.mono ?_
    rintro e w4 ⟨v1, rfl, hHE, hb⟩
    have HB4 := hide (below_to HB3.out (Nat.le_refl _) hb)
    have HS4 := hide (HS3.out.to hb)
    have HE4 := hide hHE
    clear hb C4 HB3 HS3 hHE
    go_wp2_with fail
    have CE := Erase_any log HF.out (by omega) q lq v w4 HS4.out (HG.out.to HB4.out)
    unfold EraseR at CE
    have C5 := CE
    refine C5.mono ?_
    rintro e w5 ⟨v2, rfl, hHD, hb⟩
    have HB5 := hide (below_to HB4.out (Nat.le_refl _) hb)
    have HS5 := hide (HS4.out.to hb)
    have HE5 := hide (HE4.out.to hb)
    have HD5 := hide hHD
    clear hb C5 HB4 HS4 HE4 hHD
    cases hok : okA log p with
    | false =>
      clear hok
      generalize errE (okA log q) = e9
      go_wp2_with fail
      go_ret
      exact ⟨rfl, HB5.out⟩
    | true =>
      have hok1 := hok
      clear hok
      cases hok : okA log q with
      | false =>
        clear hok hok1
        go_wp2_with fail
        go_ret
        exact ⟨rfl, HB5.out⟩
      | true =>
        have HOK1 := hide hok1
        have HOK2 := hide hok
        clear hok hok1
        have HN1 : Hid (isNm p = true) := by have := HOK1.out; unfold okA at this; simp only [Bool.and_eq_true] at this; exact this.2
        have HN2 : Hid (isNm q = true) := by have := HOK2.out; unfold okA at this; simp only [Bool.and_eq_true] at this; exact this.2
        have HE5_ := hide HE5.out
        have HDD5 := hide HD5.out
        unfold eraseV at HE5_ HDD5
        rw [HOK1.out, if_pos rfl] at HE5_
        rw [HOK2.out, if_pos rfl] at HDD5
        obtain ⟨n1, HH1⟩ : ∃ n, Hid (hitsP log p = n) := ⟨_, rfl⟩
        obtain ⟨n2, HH2⟩ : ∃ n, Hid (hitsP log q = n) := ⟨_, rfl⟩
        rw [show hitsV log p = n1 by unfold hitsV; rw [HOK1.out, if_pos rfl]; exact HH1.out, show hitsV log q = n2 by unfold hitsV; rw [HOK2.out, if_pos rfl]; exact HH2.out]
        obtain ⟨la, HLA⟩ : ∃ l, Hid (eraseP log p = l) := ⟨_, rfl⟩
        obtain ⟨lb, HLB⟩ : ∃ l, Hid (eraseP log q = l) := ⟨_, rfl⟩
        rw [HLA.out] at HE5_
        rw [HLB.out] at HDD5
        have l1 : la.length ≤ 30 := by rw [← HLA.out, erase_len]; exact hl
        have l2 : lb.length ≤ 30 := by rw [← HLB.out, erase_len]; exact hl
        have HF1 : Hid (∀ l ∈ la, l.fit) := by rw [← HLA.out]; exact fit_erase HF.out p
        have HF2 : Hid (∀ l ∈ lb, l.fit) := by rw [← HLB.out]; exact fit_erase HF.out q
        have HK1 : Hid (okA la p = true) := by show _ = _; rw [← HLA.out, (okA_erase HOK1.out).1]; exact HN1.out
        have HK2 : Hid (okA la q = true) := by show _ = _; rw [← HLA.out, (okA_erase HOK1.out).1]; exact HN2.out
        have HK3 : Hid (okA lb p = true) := by show _ = _; rw [← HLB.out, (okA_erase HOK2.out).1]; exact HN1.out
        have HV1 : Hid (eraseV la p = la ∧ hitsV la p = 0) := by
          unfold eraseV hitsV
          rw [HK1.out, if_pos rfl, if_pos rfl, ← HLA.out]
          exact ⟨erase_again HN1.out log, hits_none HN1.out log⟩
        obtain ⟨lc, HLC⟩ : ∃ l, Hid (eraseP la q = l) := ⟨_, rfl⟩
        have l3 : lc.length ≤ 30 := by rw [← HLC.out, erase_len]; exact l1
        have HV2 : Hid (eraseV la q = lc) := by unfold eraseV; rw [HK2.out, if_pos rfl]; exact HLC.out
        have HV3 : Hid (eraseV lb p = lc) := by unfold eraseV; rw [HK3.out, if_pos rfl, ← HLC.out, ← HLA.out, ← HLB.out]; exact erase_comm HN2.out HN1.out log
        obtain ⟨n3, HH3⟩ : ∃ n, Hid (hitsV la q = n) := ⟨_, rfl⟩
        obtain ⟨n4, HH4⟩ : ∃ n, Hid (hitsV lb p = n) := ⟨_, rfl⟩
        have HSUM : Hid (n1 + n3 = n2 + n4) := by
          show _ = _
          rw [← HH1.out, ← HH2.out, ← HH3.out, ← HH4.out]
          unfold hitsV
          rw [HK2.out, HK3.out, if_pos rfl, if_pos rfl, ← HLA.out, ← HLB.out]
          exact hits_sum HN1.out HN2.out log
        have b1 : n1 ≤ 30 := by rw [← HH1.out]; exact Nat.le_trans (hits_le _ _) hl
        have b2 : n2 ≤ 30 := by rw [← HH2.out]; exact Nat.le_trans (hits_le _ _) hl
        have b3 : n3 ≤ 30 := by rw [← HH3.out]; unfold hitsV; split; exact Nat.le_trans (hits_le _ _) l1; omega
        have b4 : n4 ≤ 30 := by rw [← HH4.out]; unfold hitsV; split; exact Nat.le_trans (hits_le _ _) l2; omega
        have eqs : (((n1 : Int) + (n3 : Int)) == ((n2 : Int) + (n4 : Int))) = true := by have := HSUM.out; rw [beq_iff_eq]; omega
        clear HE5 HD5
        go_wp2_with fail
        have HEE5 := hide HE5_.out
        clear HE5_
        have CE := Erase_any la HF1.out (by omega) p lp v1 w5 HEE5.out (HG.out.to HB5.out)
        unfold EraseR at CE
        rw [HV1.out.1, HV1.out.2, HK1.out] at CE
        have C6 := CE
        refine C6.mono ?_
        rintro e w6 ⟨v3, rfl, hHX, hb⟩
        have HB6 := hide (below_to HB5.out (Nat.le_refl _) hb)
        have HEE6 := hide (HEE5.out.to hb)
        have HDD6 := hide (HDD5.out.to hb)
        have HX6 := hide hHX
        clear hb C6 HB5 HEE5 HDD5 hHX
        go_wp2_with fail
        have CE := Erase_any la HF1.out (by omega) q lq v1 w6 HEE6.out (HG.out.to HB6.out)
        unfold EraseR at CE
        rw [HV2.out, HH3.out, HK2.out] at CE
        have C7 := CE
        refine C7.mono ?_
        rintro e w7 ⟨v4, rfl, hHY, hb⟩
        have HB7 := hide (below_to HB6.out (Nat.le_refl _) hb)
        have HEE7 := hide (HEE6.out.to hb)
        have HDD7 := hide (HDD6.out.to hb)
        have HX7 := hide (HX6.out.to hb)
        have HY7 := hide hHY
        clear hb C7 HB6 HEE6 HDD6 HX6 hHY
        go_wp2_with fail
        have CE := Erase_any lb HF2.out (by omega) p lp v2 w7 HDD7.out (HG.out.to HB7.out)
        unfold EraseR at CE
        rw [HV3.out, HH4.out, HK3.out] at CE
        have C8 := CE
        refine C8.mono ?_
        rintro e w8 ⟨v5, rfl, hHZ, hb⟩
        have HB8 := hide (below_to HB7.out (Nat.le_refl _) hb)
        have HEE8 := hide (HEE7.out.to hb)
        have HDD8 := hide (HDD7.out.to hb)
        have HX8 := hide (HX7.out.to hb)
        have HY8 := hide (HY7.out.to hb)
        have HZ8 := hide hHZ
        clear hb C8 HB7 HEE7 HDD7 HX7 HY7 hHZ
        go_wp2_with fail
        have CS := Same_any la la (by omega) (by omega) v3 v1 w8 HX8.out HEE8.out
        rw [decide_eq_true rfl] at CS
        have C9 := CS
        refine C9.mono ?_
        rintro e w9 ⟨rfl, hb⟩
        have HB9 := hide (below_to HB8.out (Nat.le_refl _) hb)
        have HEE9 := hide (HEE8.out.to hb)
        have HDD9 := hide (HDD8.out.to hb)
        have HX9 := hide (HX8.out.to hb)
        have HY9 := hide (HY8.out.to hb)
        have HZ9 := hide (HZ8.out.to hb)
        clear hb C9 HB8 HEE8 HDD8 HX8 HY8 HZ8
        go_wp2_with fail
        have CS := Same_any lc lc (by omega) (by omega) v4 v5 w9 HY9.out HZ9.out
        rw [decide_eq_true rfl] at CS
        have C10 := CS
        refine C10.mono ?_
        rintro e w10 ⟨rfl, hb⟩
        have HB10 := hide (below_to HB9.out (Nat.le_refl _) hb)
        have HEE10 := hide (HEE9.out.to hb)
        have HDD10 := hide (HDD9.out.to hb)
        have HX10 := hide (HX9.out.to hb)
        have HY10 := hide (HY9.out.to hb)
        have HZ10 := hide (HZ9.out.to hb)
        clear hb C10 HB9 HEE9 HDD9 HX9 HY9 HZ9
        go_wp2_with fail
        go_ret
        exact ⟨rfl, HB10.out⟩
end Go.Proofs.YtdiebacfbhjbdaaGreatDoor
