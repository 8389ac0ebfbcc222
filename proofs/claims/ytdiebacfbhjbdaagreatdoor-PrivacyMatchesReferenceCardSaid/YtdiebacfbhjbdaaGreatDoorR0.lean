/- Walks of the references of layers 1 and 4: letters, words, names, decimal digits. -/
import Derived.Test.YtdiebacfbhjbdaaGreatDoorY6
set_option linter.unusedVariables false
set_option linter.unusedSimpArgs false
namespace Go.Proofs.YtdiebacfbhjbdaaGreatDoor
open Go.RowKit

theorem isLet_iff (c : UInt8) : isLet c = true ↔ (97 ≤ c.toNat ∧ c.toNat ≤ 122) ∨ (65 ≤ c.toNat ∧ c.toNat ≤ 90) := by
  unfold isLet clsB clsN
  split
  · simp; omega
  · rename_i h
    constructor
    · intro h'
      exfalso
      revert h'
      (repeat' split) <;> decide
    · intro h'; exact absurd (by omega) h
theorem isWd_eq (c : UInt8) : isWd c = (isLet c || isDi c || (c == 95)) := by
  have h95 : (c == 95) = decide (c.toNat = 95) := by
    by_cases h : c = 95
    · subst h; rfl
    · rw [beq_eq_false_iff_ne.2 h, decide_eq_false]; intro h'; exact h (UInt8.toNat_inj.1 h')
  rw [h95]
  unfold isWd isLet isDi clsB clsN
  by_cases h1 : 97 ≤ c.toNat ∧ c.toNat ≤ 122 ∨ 65 ≤ c.toNat ∧ c.toNat ≤ 90
  · rw [if_pos h1]; simp
  · rw [if_neg h1]
    by_cases h2 : 48 ≤ c.toNat ∧ c.toNat ≤ 57
    · rw [if_pos h2]; simp [h2]
    · rw [if_neg h2]
      by_cases h3 : c.toNat = 95
      · rw [if_pos h3]; simp [h3]
      · rw [if_neg h3]
        have h2' : (decide (48 ≤ c.toNat) && decide (c.toNat ≤ 57)) = false := by rw [Bool.and_eq_false_iff]; rcases Nat.lt_or_ge c.toNat 48 with h | h; exact .inl (decide_eq_false (by omega)); exact .inr (decide_eq_false (by omega))
        rw [h2', decide_eq_false h3]
        (repeat' split) <;> decide
set_option maxHeartbeats 1000000 in
theorem rletter_any (c : UInt8) (w : World) : Calls Tryz.prog 80 #[.int .u8 (c.toNat : Int)] w fun e w' => e = .returned (.bool (isLet c)) ∧ w' = w := by
  have hv : Hid (isLet c = true ↔ (97 ≤ c.toNat ∧ c.toNat ≤ 122) ∨ (65 ≤ c.toNat ∧ c.toNat ≤ 90)) := isLet_iff c
  have hi : ∀ {b : Bool}, (b = true ↔ (97 ≤ c.toNat ∧ c.toNat ≤ 122) ∨ (65 ≤ c.toNat ∧ c.toNat ≤ 90)) → Ending.returned (.bool b) = .returned (.bool (isLet c)) := fun h => ret_bool (by rw [Bool.eq_iff_iff]; exact h.trans hv.out.symm)
  by_cases h1 : 97 ≤ c.toNat
  · have e1 : decide ((97 : Int) ≤ (c.toNat : Int)) = true := by simp; omega
    by_cases h2 : c.toNat ≤ 122
    · have e2 : decide ((c.toNat : Int) ≤ 122) = true := by simp; omega
      have HF : Hid (Ending.returned (.bool true) = .returned (.bool (isLet c))) := hi (by simp; omega)
      go_enter Tryz.func80, Tryz.ntmps80
      go_wp2_with fail
      go_ret
      exact ⟨HF.out, rfl⟩
    · have e2 : decide ((c.toNat : Int) ≤ 122) = false := by simp; omega
      have e3 : decide ((65 : Int) ≤ (c.toNat : Int)) = true := by simp; omega
      have e4 : decide ((c.toNat : Int) ≤ 90) = false := by simp; omega
      have HF : Hid (Ending.returned (.bool false) = .returned (.bool (isLet c))) := hi (by simp; omega)
      go_enter Tryz.func80, Tryz.ntmps80
      go_wp2_with fail
      go_ret
      exact ⟨HF.out, rfl⟩
  · have e1 : decide ((97 : Int) ≤ (c.toNat : Int)) = false := by simp; omega
    by_cases h3 : 65 ≤ c.toNat
    · have e3 : decide ((65 : Int) ≤ (c.toNat : Int)) = true := by simp; omega
      by_cases h4 : c.toNat ≤ 90
      · have e4 : decide ((c.toNat : Int) ≤ 90) = true := by simp; omega
        have HF : Hid (Ending.returned (.bool true) = .returned (.bool (isLet c))) := hi (by simp; omega)
        go_enter Tryz.func80, Tryz.ntmps80
        go_wp2_with fail
        go_ret
        exact ⟨HF.out, rfl⟩
      · have e4 : decide ((c.toNat : Int) ≤ 90) = false := by simp; omega
        have HF : Hid (Ending.returned (.bool false) = .returned (.bool (isLet c))) := hi (by simp; omega)
        go_enter Tryz.func80, Tryz.ntmps80
        go_wp2_with fail
        go_ret
        exact ⟨HF.out, rfl⟩
    · have e3 : decide ((65 : Int) ≤ (c.toNat : Int)) = false := by simp; omega
      have HF : Hid (Ending.returned (.bool false) = .returned (.bool (isLet c))) := hi (by simp; omega)
      go_enter Tryz.func80, Tryz.ntmps80
      go_wp2_with fail
      go_ret
      exact ⟨HF.out, rfl⟩
set_option maxHeartbeats 1000000 in
theorem rdigit_any (c : UInt8) (w : World) : Calls Tryz.prog 109 #[.int .u8 (c.toNat : Int)] w fun e w' => e = .returned (.bool (isDi c)) ∧ w' = w := by
  have HD : Hid (isDi c = (decide (48 ≤ c.toNat) && decide (c.toNat ≤ 57))) := rfl
  by_cases h1 : 48 ≤ c.toNat
  · have e1 : decide ((48 : Int) ≤ (c.toNat : Int)) = true := by simp; omega
    have HE : Hid (decide ((c.toNat : Int) ≤ 57) = isDi c) := by show _ = _; rw [HD.out, decide_eq_true h1, Bool.true_and]; by_cases h : c.toNat ≤ 57 <;> simp [h] <;> omega
    go_enter Tryz.func109, Tryz.ntmps109
    go_wp2_with fail
    go_ret
    exact ⟨ret_bool HE.out, rfl⟩
  · have e1 : decide ((48 : Int) ≤ (c.toNat : Int)) = false := by simp; omega
    have HE : Hid (isDi c = false) := by show _ = _; rw [HD.out, decide_eq_false h1]; rfl
    go_enter Tryz.func109, Tryz.ntmps109
    go_wp2_with fail
    go_ret
    exact ⟨ret_bool (by rw [HE.out]), rfl⟩
set_option maxHeartbeats 1000000 in
theorem rword_any (c : UInt8) (w : World) : Calls Tryz.prog 79 #[.int .u8 (c.toNat : Int)] w fun e w' => e = .returned (.bool (isWd c)) ∧ w' = w := by
  have HW := hide (isWd_eq c)
  have CL := fun w => rletter_any c w
  have CD := fun w => rdigit_any c w
  have h95 : ((c.toNat : Int) == 95) = (c == 95) := by
    by_cases h : c = 95
    · subst h; rfl
    · rw [beq_eq_false_iff_ne.2 h, beq_eq_false_iff_ne]; intro h'; exact h (UInt8.toNat_inj.1 (by show c.toNat = 95; omega))
  generalize (c == 95) = C at *
  generalize isLet c = A at *
  generalize isDi c = B at *
  cases A with
  | true =>
    go_enter Tryz.func79, Tryz.ntmps79
    go_wp2_with (first | ((with_reducible refine (CL _).mono ?_); rintro e w' ⟨rfl, rfl⟩) | ((with_reducible refine (CD _).mono ?_); rintro e w' ⟨rfl, rfl⟩))
    go_ret
    exact ⟨ret_bool (by rw [HW.out]; rfl), rfl⟩
  | false =>
    cases B with
    | true =>
      go_enter Tryz.func79, Tryz.ntmps79
      go_wp2_with (first | ((with_reducible refine (CL _).mono ?_); rintro e w' ⟨rfl, rfl⟩) | ((with_reducible refine (CD _).mono ?_); rintro e w' ⟨rfl, rfl⟩))
      go_ret
      exact ⟨ret_bool (by rw [HW.out]; rfl), rfl⟩
    | false =>
      go_enter Tryz.func79, Tryz.ntmps79
      go_wp2_with (first | ((with_reducible refine (CL _).mono ?_); rintro e w' ⟨rfl, rfl⟩) | ((with_reducible refine (CD _).mono ?_); rintro e w' ⟨rfl, rfl⟩))
      go_ret
      exact ⟨ret_bool (by rw [HW.out]; rfl), rfl⟩
def hdLet : List UInt8 → Bool
  | c :: _ => isLet c
  | [] => false
theorem hdLet_at {s : List UInt8} {c : UInt8} (h : s[0]? = some c) : hdLet s = isLet c := by
  cases s with
  | nil => simp at h
  | cons a r => simp at h; subst h; rfl
theorem isNm_eq (s : List UInt8) : isNm s = (s.all isWd && decide (0 < s.length) && decide (s.length ≤ 24) && hdLet s) := by
  unfold isNm
  cases s with
  | nil => rfl
  | cons c r =>
    rw [decide_eq_true (show 0 < (c :: r).length by simp)]
    show (isLet c && (c :: r).all isWd && decide ((c :: r).length ≤ 24)) = ((c :: r).all isWd && true && decide ((c :: r).length ≤ 24) && isLet c)
    generalize isLet c = A
    generalize (c :: r).all isWd = B
    generalize decide ((c :: r).length ≤ 24) = D
    cases A <;> cases B <;> cases D <;> rfl
set_option maxRecDepth 100000 in
set_option maxHeartbeats 2000000 in
theorem rName_any (s : List UInt8) (hs : s.length ≤ 140737488355328) (w : World) : Calls Tryz.prog 51 #[.string (bs s)] w fun e w' => e = .returned (.bool (isNm s)) ∧ w' = w := by
  have hsz : (bs s).size = s.length := bs_size s
  have HNM := hide (isNm_eq s)
  go_enter Tryz.func51, Tryz.ntmps51
  go_wp2_with fail
  go_loopw [3] (fun i wr => ∃ k : Nat, i = .int .i64 (k : Int) ∧ (k ≤ s.length ∧ s.all isWd = (s.drop k).all isWd) ∧ wr = w) (fun i _ => s.length - (intOf i).toNat)
  case atStart => exact ⟨0, rfl, ⟨by omega, rfl⟩, rfl⟩
  case round =>
    obtain ⟨k, rfl, ⟨hk, hall⟩, rfl⟩ := hrel
    have HA := hide hall
    clear hall
    by_cases hlt : k < s.length
    · have e1 : decide ((k : Int) < (s.length : Int)) = true := by simp; omega
      obtain ⟨c, hc⟩ : ∃ c, s[k]? = some c := ⟨_, List.getElem?_eq_getElem hlt⟩
      have ci := index_bs s k c hc
      have CV := fun w => rword_any c w
      have HD := hide (drop_at hc)
      clear hc
      cases hv : isWd c with
      | false =>
        rw [hv] at CV
        have HV := hide hv
        clear hv
        go_wp2_with ((with_reducible refine (CV _).mono ?_); rintro e w' ⟨rfl, rfl⟩)
        go_ret
        exact ⟨ret_bool (by rw [HNM.out, HA.out, HD.out, List.all_cons, HV.out]; rfl), rfl⟩
      | true =>
        rw [hv] at CV
        have HV := hide hv
        clear hv
        go_wp2_with ((with_reducible refine (CV _).mono ?_); rintro e w' ⟨rfl, rfl⟩)
        refine ⟨⟨k + 1, by go_num, ⟨by omega, by rw [HA.out, HD.out, List.all_cons, HV.out]; rfl⟩, (by first | rfl | trivial)⟩, ?_⟩
        simp [intOf]; omega
    · obtain rfl : k = s.length := by omega
      have e1 : decide ((s.length : Int) < (s.length : Int)) = false := by simp
      have HT : Hid (s.all isWd = true) := by show _ = _; rw [HA.out, List.drop_length]; rfl
      clear HA
      by_cases h0 : 0 < s.length
      · have e2 : decide ((0 : Int) < (s.length : Int)) = true := decide_eq_true (by omega)
        obtain ⟨c, hc⟩ : ∃ c, s[0]? = some c := ⟨_, List.getElem?_eq_getElem h0⟩
        have ci : ∀ w, (Instr.index 9 (.string (bs s)) (.int .i64 0)).run Tryz.prog w = .ok (.int .u8 (c.toNat : Int)) w := index_bs s 0 c hc
        have CV := fun w => rletter_any c w
        have HL := hide (hdLet_at hc)
        clear hc
        by_cases h24 : s.length ≤ 24
        · have e3 : decide ((s.length : Int) ≤ 24) = true := by simp; omega
          have HF : Hid (isNm s = isLet c) := by show _ = _; rw [HNM.out, HT.out, HL.out, decide_eq_true h0, decide_eq_true h24]; simp
          go_wp2_with ((with_reducible refine (CV _).mono ?_); rintro e w' ⟨rfl, rfl⟩)
          go_ret
          exact ⟨ret_bool (by rw [HF.out]), rfl⟩
        · have e3 : decide ((s.length : Int) ≤ 24) = false := by simp; omega
          have HF : Hid (isNm s = false) := by show _ = _; rw [HNM.out, decide_eq_false h24]; simp
          go_wp2_with fail
          go_ret
          exact ⟨ret_bool (by rw [HF.out]), rfl⟩
      · have e2 : decide ((0 : Int) < (s.length : Int)) = false := decide_eq_false (by omega)
        have HF : Hid (isNm s = false) := by show _ = _; rw [HNM.out, decide_eq_false h0]; simp
        go_wp2_with fail
        go_ret
        exact ⟨ret_bool (by rw [HF.out]), rfl⟩
end Go.Proofs.YtdiebacfbhjbdaaGreatDoor
