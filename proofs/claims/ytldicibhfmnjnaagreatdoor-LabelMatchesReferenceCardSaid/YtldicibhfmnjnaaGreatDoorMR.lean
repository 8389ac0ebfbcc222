/- Several texts as one, in build order. -/
import Derived.Test.YtldicibhfmnjnaaGreatDoorY6
import Derived.Lib.ItoaNum
import Derived.Test.YtldicibhfmnjnaaGreatDoorF3
import Derived.Test.YtldicibhfmnjnaaGreatDoorE4
import Derived.Test.YtldicibhfmnjnaaGreatDoorF4
/- Walks of the references of layers 1 and 4: letters, words, names, decimal digits. -/
set_option linter.unusedVariables false
set_option linter.unusedSimpArgs false
namespace Go.Proofs.YtldicibhfmnjnaaGreatDoor
open Go.RowKit

theorem isLet_iff (c : UInt8) : isLet c = true ↔ (97 ≤ c.toNat ∧ c.toNat ≤ 122) ∨ (65 ≤ c.toNat ∧ c.toNat ≤ 90) := by
  unfold isLet clsB clsN
  split
  · simp; omega
  · rename_i h
    constructor
    · intro h'
      exfalso
      revert h'
      (repeat' split) <;> decide
    · intro h'; exact absurd (by omega) h
theorem isWd_eq (c : UInt8) : isWd c = (isLet c || isDi c || (c == 95)) := by
  have h95 : (c == 95) = decide (c.toNat = 95) := by
    by_cases h : c = 95
    · subst h; rfl
    · rw [beq_eq_false_iff_ne.2 h, decide_eq_false]; intro h'; exact h (UInt8.toNat_inj.1 h')
  rw [h95]
  unfold isWd isLet isDi clsB clsN
  by_cases h1 : 97 ≤ c.toNat ∧ c.toNat ≤ 122 ∨ 65 ≤ c.toNat ∧ c.toNat ≤ 90
  · rw [if_pos h1]; simp
  · rw [if_neg h1]
    by_cases h2 : 48 ≤ c.toNat ∧ c.toNat ≤ 57
    · rw [if_pos h2]; simp [h2]
    · rw [if_neg h2]
      by_cases h3 : c.toNat = 95
      · rw [if_pos h3]; simp [h3]
      · rw [if_neg h3]
        have h2' : (decide (48 ≤ c.toNat) && decide (c.toNat ≤ 57)) = false := by rw [Bool.and_eq_false_iff]; rcases Nat.lt_or_ge c.toNat 48 with h | h; exact .inl (decide_eq_false (by omega)); exact .inr (decide_eq_false (by omega))
        rw [h2', decide_eq_false h3]
        (repeat' split) <;> decide
set_option maxHeartbeats 1000000 in
theorem rletter_any (c : UInt8) (w : World) : Calls Tryz.prog 102 #[.int .u8 (c.toNat : Int)] w fun e w' => e = .returned (.bool (isLet c)) ∧ w' = w := by
  have hv : Hid (isLet c = true ↔ (97 ≤ c.toNat ∧ c.toNat ≤ 122) ∨ (65 ≤ c.toNat ∧ c.toNat ≤ 90)) := isLet_iff c
  have hi : ∀ {b : Bool}, (b = true ↔ (97 ≤ c.toNat ∧ c.toNat ≤ 122) ∨ (65 ≤ c.toNat ∧ c.toNat ≤ 90)) → Ending.returned (.bool b) = .returned (.bool (isLet c)) := fun h => ret_bool (by rw [Bool.eq_iff_iff]; exact h.trans hv.out.symm)
  by_cases h1 : 97 ≤ c.toNat
  · have e1 : decide ((97 : Int) ≤ (c.toNat : Int)) = true := by simp; omega
    by_cases h2 : c.toNat ≤ 122
    · have e2 : decide ((c.toNat : Int) ≤ 122) = true := by simp; omega
      have HF : Hid (Ending.returned (.bool true) = .returned (.bool (isLet c))) := hi (by simp; omega)
      go_enter Tryz.func102, Tryz.ntmps102
      go_wp2_with fail
      go_ret
      exact ⟨HF.out, rfl⟩
    · have e2 : decide ((c.toNat : Int) ≤ 122) = false := by simp; omega
      have e3 : decide ((65 : Int) ≤ (c.toNat : Int)) = true := by simp; omega
      have e4 : decide ((c.toNat : Int) ≤ 90) = false := by simp; omega
      have HF : Hid (Ending.returned (.bool false) = .returned (.bool (isLet c))) := hi (by simp; omega)
      go_enter Tryz.func102, Tryz.ntmps102
      go_wp2_with fail
      go_ret
      exact ⟨HF.out, rfl⟩
  · have e1 : decide ((97 : Int) ≤ (c.toNat : Int)) = false := by simp; omega
    by_cases h3 : 65 ≤ c.toNat
    · have e3 : decide ((65 : Int) ≤ (c.toNat : Int)) = true := by simp; omega
      by_cases h4 : c.toNat ≤ 90
      · have e4 : decide ((c.toNat : Int) ≤ 90) = true := by simp; omega
        have HF : Hid (Ending.returned (.bool true) = .returned (.bool (isLet c))) := hi (by simp; omega)
        go_enter Tryz.func102, Tryz.ntmps102
        go_wp2_with fail
        go_ret
        exact ⟨HF.out, rfl⟩
      · have e4 : decide ((c.toNat : Int) ≤ 90) = false := by simp; omega
        have HF : Hid (Ending.returned (.bool false) = .returned (.bool (isLet c))) := hi (by simp; omega)
        go_enter Tryz.func102, Tryz.ntmps102
        go_wp2_with fail
        go_ret
        exact ⟨HF.out, rfl⟩
    · have e3 : decide ((65 : Int) ≤ (c.toNat : Int)) = false := by simp; omega
      have HF : Hid (Ending.returned (.bool false) = .returned (.bool (isLet c))) := hi (by simp; omega)
      go_enter Tryz.func102, Tryz.ntmps102
      go_wp2_with fail
      go_ret
      exact ⟨HF.out, rfl⟩
set_option maxHeartbeats 1000000 in
theorem rdigit_any (c : UInt8) (w : World) : Calls Tryz.prog 118 #[.int .u8 (c.toNat : Int)] w fun e w' => e = .returned (.bool (isDi c)) ∧ w' = w := by
  have HD : Hid (isDi c = (decide (48 ≤ c.toNat) && decide (c.toNat ≤ 57))) := rfl
  by_cases h1 : 48 ≤ c.toNat
  · have e1 : decide ((48 : Int) ≤ (c.toNat : Int)) = true := by simp; omega
    have HE : Hid (decide ((c.toNat : Int) ≤ 57) = isDi c) := by show _ = _; rw [HD.out, decide_eq_true h1, Bool.true_and]; by_cases h : c.toNat ≤ 57 <;> simp [h] <;> omega
    go_enter Tryz.func118, Tryz.ntmps118
    go_wp2_with fail
    go_ret
    exact ⟨ret_bool HE.out, rfl⟩
  · have e1 : decide ((48 : Int) ≤ (c.toNat : Int)) = false := by simp; omega
    have HE : Hid (isDi c = false) := by show _ = _; rw [HD.out, decide_eq_false h1]; rfl
    go_enter Tryz.func118, Tryz.ntmps118
    go_wp2_with fail
    go_ret
    exact ⟨ret_bool (by rw [HE.out]), rfl⟩
set_option maxHeartbeats 1000000 in
theorem rword_any (c : UInt8) (w : World) : Calls Tryz.prog 101 #[.int .u8 (c.toNat : Int)] w fun e w' => e = .returned (.bool (isWd c)) ∧ w' = w := by
  have HW := hide (isWd_eq c)
  have CL := fun w => rletter_any c w
  have CD := fun w => rdigit_any c w
  have h95 : ((c.toNat : Int) == 95) = (c == 95) := by
    by_cases h : c = 95
    · subst h; rfl
    · rw [beq_eq_false_iff_ne.2 h, beq_eq_false_iff_ne]; intro h'; exact h (UInt8.toNat_inj.1 (by show c.toNat = 95; omega))
  generalize (c == 95) = C at *
  generalize isLet c = A at *
  generalize isDi c = B at *
  cases A with
  | true =>
    go_enter Tryz.func101, Tryz.ntmps101
    go_wp2_with (first | ((with_reducible refine (CL _).mono ?_); rintro e w' ⟨rfl, rfl⟩) | ((with_reducible refine (CD _).mono ?_); rintro e w' ⟨rfl, rfl⟩))
    go_ret
    exact ⟨ret_bool (by rw [HW.out]; rfl), rfl⟩
  | false =>
    cases B with
    | true =>
      go_enter Tryz.func101, Tryz.ntmps101
      go_wp2_with (first | ((with_reducible refine (CL _).mono ?_); rintro e w' ⟨rfl, rfl⟩) | ((with_reducible refine (CD _).mono ?_); rintro e w' ⟨rfl, rfl⟩))
      go_ret
      exact ⟨ret_bool (by rw [HW.out]; rfl), rfl⟩
    | false =>
      go_enter Tryz.func101, Tryz.ntmps101
      go_wp2_with (first | ((with_reducible refine (CL _).mono ?_); rintro e w' ⟨rfl, rfl⟩) | ((with_reducible refine (CD _).mono ?_); rintro e w' ⟨rfl, rfl⟩))
      go_ret
      exact ⟨ret_bool (by rw [HW.out]; rfl), rfl⟩
def hdLet : List UInt8 → Bool
  | c :: _ => isLet c
  | [] => false
theorem hdLet_at {s : List UInt8} {c : UInt8} (h : s[0]? = some c) : hdLet s = isLet c := by
  cases s with
  | nil => simp at h
  | cons a r => simp at h; subst h; rfl
theorem isNm_eq (s : List UInt8) : isNm s = (s.all isWd && decide (0 < s.length) && decide (s.length ≤ 24) && hdLet s) := by
  unfold isNm
  cases s with
  | nil => rfl
  | cons c r =>
    rw [decide_eq_true (show 0 < (c :: r).length by simp)]
    show (isLet c && (c :: r).all isWd && decide ((c :: r).length ≤ 24)) = ((c :: r).all isWd && true && decide ((c :: r).length ≤ 24) && isLet c)
    generalize isLet c = A
    generalize (c :: r).all isWd = B
    generalize decide ((c :: r).length ≤ 24) = D
    cases A <;> cases B <;> cases D <;> rfl
set_option maxRecDepth 100000 in
set_option maxHeartbeats 2000000 in
theorem rName_any (s : List UInt8) (hs : s.length ≤ 140737488355328) (w : World) : Calls Tryz.prog 81 #[.string (bs s)] w fun e w' => e = .returned (.bool (isNm s)) ∧ w' = w := by
  have hsz : (bs s).size = s.length := bs_size s
  have HNM := hide (isNm_eq s)
  go_enter Tryz.func81, Tryz.ntmps81
  go_wp2_with fail
  go_loopw [3] (fun i wr => ∃ k : Nat, i = .int .i64 (k : Int) ∧ (k ≤ s.length ∧ s.all isWd = (s.drop k).all isWd) ∧ wr = w) (fun i _ => s.length - (intOf i).toNat)
  case atStart => exact ⟨0, rfl, ⟨by omega, rfl⟩, rfl⟩
  case round =>
    obtain ⟨k, rfl, ⟨hk, hall⟩, rfl⟩ := hrel
    have HA := hide hall
    clear hall
    by_cases hlt : k < s.length
    · have e1 : decide ((k : Int) < (s.length : Int)) = true := by simp; omega
      obtain ⟨c, hc⟩ : ∃ c, s[k]? = some c := ⟨_, List.getElem?_eq_getElem hlt⟩
      have ci := index_bs s k c hc
      have CV := fun w => rword_any c w
      have HD := hide (drop_at hc)
      clear hc
      cases hv : isWd c with
      | false =>
        rw [hv] at CV
        have HV := hide hv
        clear hv
        go_wp2_with ((with_reducible refine (CV _).mono ?_); rintro e w' ⟨rfl, rfl⟩)
        go_ret
        exact ⟨ret_bool (by rw [HNM.out, HA.out, HD.out, List.all_cons, HV.out]; rfl), rfl⟩
      | true =>
        rw [hv] at CV
        have HV := hide hv
        clear hv
        go_wp2_with ((with_reducible refine (CV _).mono ?_); rintro e w' ⟨rfl, rfl⟩)
        refine ⟨⟨k + 1, by go_num, ⟨by omega, by rw [HA.out, HD.out, List.all_cons, HV.out]; rfl⟩, (by first | rfl | trivial)⟩, ?_⟩
        simp [intOf]; omega
    · obtain rfl : k = s.length := by omega
      have e1 : decide ((s.length : Int) < (s.length : Int)) = false := by simp
      have HT : Hid (s.all isWd = true) := by show _ = _; rw [HA.out, List.drop_length]; rfl
      clear HA
      by_cases h0 : 0 < s.length
      · have e2 : decide ((0 : Int) < (s.length : Int)) = true := decide_eq_true (by omega)
        obtain ⟨c, hc⟩ : ∃ c, s[0]? = some c := ⟨_, List.getElem?_eq_getElem h0⟩
        have ci : ∀ w, (Instr.index 9 (.string (bs s)) (.int .i64 0)).run Tryz.prog w = .ok (.int .u8 (c.toNat : Int)) w := index_bs s 0 c hc
        have CV := fun w => rletter_any c w
        have HL := hide (hdLet_at hc)
        clear hc
        by_cases h24 : s.length ≤ 24
        · have e3 : decide ((s.length : Int) ≤ 24) = true := by simp; omega
          have HF : Hid (isNm s = isLet c) := by show _ = _; rw [HNM.out, HT.out, HL.out, decide_eq_true h0, decide_eq_true h24]; simp
          go_wp2_with ((with_reducible refine (CV _).mono ?_); rintro e w' ⟨rfl, rfl⟩)
          go_ret
          exact ⟨ret_bool (by rw [HF.out]), rfl⟩
        · have e3 : decide ((s.length : Int) ≤ 24) = false := by simp; omega
          have HF : Hid (isNm s = false) := by show _ = _; rw [HNM.out, decide_eq_false h24]; simp
          go_wp2_with fail
          go_ret
          exact ⟨ret_bool (by rw [HF.out]), rfl⟩
      · have e2 : decide ((0 : Int) < (s.length : Int)) = false := decide_eq_false (by omega)
        have HF : Hid (isNm s = false) := by show _ = _; rw [HNM.out, decide_eq_false h0]; simp
        go_wp2_with fail
        go_ret
        exact ⟨ret_bool (by rw [HF.out]), rfl⟩
end Go.Proofs.YtldicibhfmnjnaaGreatDoor

/- Walks of the reference of layer 1: decimal digits. -/
set_option linter.unusedVariables false
set_option linter.unusedSimpArgs false
namespace Go.Proofs.YtldicibhfmnjnaaGreatDoor
open Go.RowKit

def dgc (m : Nat) : UInt8 := UInt8.ofNat (48 + m)
def decS : List UInt8 := [48, 49, 50, 51, 52, 53, 54, 55, 56, 57]
theorem decS_cut : ∀ m, m < 10 → (decS.drop m).take (m + 1 - m) = [dgc m] := by decide
theorem decS_ext (m : Nat) (h : m < 10) : (⟨#[48, 49, 50, 51, 52, 53, 54, 55, 56, 57]⟩ : ByteArray).extract m (m + 1) = bs [dgc m] := by
  have := bs_cut decS m (m + 1)
  rw [decS_cut m h] at this
  exact this
def restD (u : Nat) : List UInt8 := if u = 0 then [] else Lib.decDigits u
theorem restD_step {u : Nat} (h : 0 < u) : restD u = restD (u / 10) ++ [dgc (u % 10)] := by
  unfold restD
  rw [if_neg (by omega), Lib.decDigits]
  split
  · rename_i h10
    rw [if_pos (by omega), show u % 10 = u by omega]; rfl
  · rw [if_neg (by omega)]; rfl
theorem dec_step (u : Nat) : Lib.decDigits u = restD (u / 10) ++ [dgc (u % 10)] := by
  unfold restD
  conv => lhs; rw [Lib.decDigits]
  split
  · rename_i h10
    rw [if_pos (by omega), show u % 10 = u by omega]; rfl
  · rw [if_neg (by omega)]; rfl
theorem dec_len : ∀ (n u : Nat), u < 10 ^ (n + 1) → (Lib.decDigits u).length ≤ n + 1 := by
  intro n
  induction n with
  | zero => intro u hu; rw [Lib.decDigits, dif_pos (show u < 10 by omega)]; simp
  | succ n ih =>
    intro u hu
    rw [Lib.decDigits]
    split
    · simp
    · rw [List.length_append]
      have := ih (u / 10) (by rw [Nat.pow_succ] at hu; omega)
      simp; omega
def DgI (u : Nat) (w wr : World) (a s : Value) : Prop := ∃ (k : Nat) (S : List UInt8), a = .int .u64 (k : Int) ∧ s = .string (bs S) ∧ restD k ++ S = Lib.decDigits u ∧ k ≤ u ∧ wr = w
set_option maxRecDepth 100000 in
set_option maxHeartbeats 2000000 in
theorem rdigits_any (u : Nat) (hu : u < 18446744073709551616) (w : World) : Calls Tryz.prog 82 #[.int .u64 (u : Int)] w fun e w' => e = .returned (.string (bs (Lib.decDigits u))) ∧ w' = w := by
  have hlen := dec_len 19 u (by omega)
  obtain ⟨m, hm, hm10⟩ : ∃ m, u % 10 = m ∧ m < 10 := ⟨_, rfl, by omega⟩
  have h1 : (u : Int).tmod 10 = (m : Int) := by rw [Int.tmod_eq_emod_of_nonneg (by omega), ← hm, Int.natCast_emod]; rfl
  have hx := decS_ext m hm10
  have HS := hide (dec_step u)
  rw [hm] at HS
  have H2 : Hid ((u : Int) / 10 = ((u / 10 : Nat) : Int)) := by show _ = _; rw [Int.natCast_ediv]; rfl
  go_enter Tryz.func82, Tryz.ntmps82
  go_wp2_with fail
  clear hm h1 hx hm10
  go_loopw [0, 3] (fun a s wr => DgI u w wr a s) (fun a _ _ => (intOf a).toNat)
  case atStart => exact ⟨u / 10, [dgc m], by rw [H2.out], rfl, HS.out.symm, by omega, rfl⟩
  case round =>
    obtain ⟨k, S, rfl, rfl, hS, hk, rfl⟩ := hrel
    have HE := hide hS
    clear hS HS H2
    have hSl : S.length ≤ 20 := by have := congrArg List.length HE.out; rw [List.length_append] at this; omega
    have hz : (bs S).size = S.length := bs_size S
    by_cases h0 : 0 < k
    · have e1 : decide ((0 : Int) < (k : Int)) = true := decide_eq_true (by omega)
      obtain ⟨m', hm, hm10⟩ : ∃ m, k % 10 = m ∧ m < 10 := ⟨_, rfl, by omega⟩
      have h1 : (k : Int).tmod 10 = (m' : Int) := by rw [Int.tmod_eq_emod_of_nonneg (by omega), ← hm, Int.natCast_emod]; rfl
      have hx := decS_ext m' hm10
      have hz1 : (bs [dgc m']).size = 1 := rfl
      have H2 : Hid ((k : Int) / 10 = ((k / 10 : Nat) : Int)) := by show _ = _; rw [Int.natCast_ediv]; rfl
      have HN := hide (restD_step h0)
      rw [hm] at HN
      clear hm
      go_wp2_with fail
      refine ⟨⟨k / 10, [dgc m'] ++ S, by rw [H2.out], by rw [← bs_app], by rw [← HE.out, HN.out]; simp, by omega, (by first | rfl | trivial)⟩, ?_⟩
      simp [intOf]; omega
    · obtain rfl : k = 0 := by omega
      have HF : Hid (S = Lib.decDigits u) := by show _ = _; rw [← HE.out]; rfl
      go_wp2_with fail
      go_ret
      exact ⟨ret_str' (by rw [HF.out]), rfl⟩
theorem rDecimal_any (u : Nat) (hu : u ≤ 9223372036854775807) (w : World) : Calls Tryz.prog 54 #[.int .i64 (u : Int)] w fun e w' => e = .returned (.string (bs (Lib.decDigits u))) ∧ w' = w := by
  have CD := fun w => rdigits_any u (by omega) w
  have e1 : decide ((u : Int) < 0) = false := decide_eq_false (by omega)
  have hw : IntKind.u64.wrap (u : Int) = (u : Int) := by
    have hm : (u : Int) % 18446744073709551616 = u := by omega
    simp [IntKind.wrap, IntKind.signed, IntKind.bits, hm]
  go_enter Tryz.func54, Tryz.ntmps54
  go_wp2_with ((with_reducible refine (CD _).mono ?_); rintro e w' ⟨rfl, rfl⟩)
  go_ret
  exact ⟨rfl, rfl⟩
end Go.Proofs.YtldicibhfmnjnaaGreatDoor

/- Walks of the reference of layer 46: value, Symbols, Printed, Payload. -/
set_option linter.unusedVariables false
set_option linter.unusedSimpArgs false
namespace Go.Proofs.YtldicibhfmnjnaaGreatDoor
open Go.RowKit

theorem symT_len : symT.length = 37 := by decide
theorem symV_of {k : Nat} {c : UInt8} (h : symT[k]? = some c) : symV c = (k : Int) := by
  have hk : k < 37 := by
    rcases Nat.lt_or_ge k symT.length with h' | h'
    · rwa [symT_len] at h'
    · rw [List.getElem?_eq_none h'] at h; cases h
  have := symV_C k hk
  unfold symC at this
  rw [Int.toNat_natCast, List.getD_eq_getElem?_getD, h] at this
  exact this
theorem symV_none {c : UInt8} (h : ∀ j, j < 37 → symT[j]? ≠ some c) : symV c = -1 := by
  have hr := symV_range c
  rcases Int.lt_or_le (symV c) 0 with h0 | h0
  · omega
  · exfalso
    have hs : isSym c = true := by unfold isSym; exact decide_eq_true h0
    have hc := symC_V c hs
    have hk : (symV c).toNat < 37 := by omega
    refine h (symV c).toNat hk ?_
    unfold symC at hc
    have hl : (symV c).toNat < symT.length := by rw [symT_len]; exact hk
    rw [List.getD_eq_getElem?_getD, List.getElem?_eq_getElem hl] at hc
    rw [List.getElem?_eq_getElem hl]
    exact congrArg some hc
set_option maxRecDepth 100000 in
set_option maxHeartbeats 2000000 in
theorem rvalue_any (c : UInt8) (w : World) : Calls Tryz.prog 39 #[.int .u8 (c.toNat : Int)] w fun e w' => e = .returned (.int .i64 (symV c)) ∧ w' = w := by
  go_enter Tryz.func39, Tryz.ntmps39
  go_wp2_with fail
  go_loopw [3] (fun i wr => ∃ k : Nat, i = .int .i64 (k : Int) ∧ (k ≤ 37 ∧ ∀ j, j < k → symT[j]? ≠ some c) ∧ wr = w) (fun i _ => 37 - (intOf i).toNat)
  case atStart => exact ⟨0, rfl, ⟨by omega, fun j hj => absurd hj (by omega)⟩, rfl⟩
  case round =>
    obtain ⟨k, rfl, ⟨hk, hno⟩, rfl⟩ := hrel
    have HNO := hide hno
    clear hno
    by_cases hlt : k < 37
    · have e1 : decide ((k : Int) < 37) = true := by simp; omega
      obtain ⟨d, hd, _⟩ := symT_w k hlt
      have cs : ∀ w, (Instr.index 9 (.string ⟨#[48, 49, 50, 51, 52, 53, 54, 55, 56, 57, 97, 98, 99, 100, 101, 102, 103, 104, 105, 106, 107, 108, 109, 110, 111, 112, 113, 114, 115, 116, 117, 118, 119, 120, 121, 122, 45]⟩) (.int .i64 (k : Int))).run Tryz.prog w = .ok (.int .u8 (d.toNat : Int)) w := index_bs symT k d hd
      by_cases hc : d = c
      · subst hc
        have HV := hide (symV_of hd)
        clear hd
        go_wp2_with fail
        go_ret
        exact ⟨ret_int (by rw [HV.out]), rfl⟩
      · have e2 := u8_beq hc
        have HN : Hid (∀ j, j < k + 1 → symT[j]? ≠ some c) := fun j hj => by
          rcases Nat.lt_or_ge j k with h | h
          · exact HNO.out j h
          · obtain rfl : j = k := by omega
            rw [hd]; exact fun h => hc (Option.some.inj h)
        clear hd hc
        go_wp2_with fail
        refine ⟨⟨k + 1, by go_num, ⟨by omega, HN.out⟩, (by first | rfl | trivial)⟩, ?_⟩
        simp [intOf]; omega
    · obtain rfl : k = 37 := by omega
      have HV := hide (symV_none HNO.out)
      go_wp2_with fail
      go_ret
      exact ⟨ret_int (by rw [HV.out]), rfl⟩
set_option maxHeartbeats 2000000 in
theorem rSymbols_any (s : List UInt8) (hs : s.length ≤ 1099511627776) (w : World) : Calls Tryz.prog 65 #[.string (bs s)] w fun e w' => e = .returned (.bool (s.all isSym)) ∧ w' = w := by
  have hsz : (bs s).size = s.length := bs_size s
  go_enter Tryz.func65, Tryz.ntmps65
  go_wp2_with fail
  go_loopw [3] (fun i wr => ∃ k : Nat, i = .int .i64 (k : Int) ∧ (k ≤ s.length ∧ s.all isSym = (s.drop k).all isSym) ∧ wr = w) (fun i _ => s.length - (intOf i).toNat)
  case atStart => exact ⟨0, rfl, ⟨by omega, rfl⟩, rfl⟩
  case round =>
    obtain ⟨k, rfl, ⟨hk, hall⟩, rfl⟩ := hrel
    have HA := hide hall
    clear hall
    by_cases hlt : k < s.length
    · have e1 : decide ((k : Int) < (s.length : Int)) = true := by simp; omega
      obtain ⟨c, hc⟩ : ∃ c, s[k]? = some c := ⟨_, List.getElem?_eq_getElem hlt⟩
      have ci := index_bs s k c hc
      have CV := fun w => rvalue_any c w
      have HD := hide (drop_at hc)
      have hr := symV_range c
      have HS : Hid (isSym c = decide (0 ≤ symV c)) := rfl
      clear hc
      generalize symV c = v at *
      by_cases hv : v < 0
      · have e2 : decide (v < 0) = true := by simp; omega
        go_wp2_with ((with_reducible refine (CV _).mono ?_); rintro e w' ⟨rfl, rfl⟩)
        go_ret
        exact ⟨ret_bool (by rw [HA.out, HD.out, List.all_cons, HS.out, decide_eq_false (by omega)]; rfl), rfl⟩
      · have e2 : decide (v < 0) = false := by simp; omega
        go_wp2_with ((with_reducible refine (CV _).mono ?_); rintro e w' ⟨rfl, rfl⟩)
        refine ⟨⟨k + 1, by go_num, ⟨by omega, by rw [HA.out, HD.out, List.all_cons, HS.out, decide_eq_true (by omega)]; rfl⟩, (by first | rfl | trivial)⟩, ?_⟩
        simp [intOf]; omega
    · obtain rfl : k = s.length := by omega
      have e1 : decide ((s.length : Int) < (s.length : Int)) = false := by simp
      go_wp2_with fail
      go_ret
      exact ⟨ret_bool (by rw [HA.out, List.drop_length]; rfl), rfl⟩
theorem rPayload_any (s : List UInt8) (hs : s.length ≤ 1099511627776) (w : World) : Calls Tryz.prog 36 #[.string (bs s)] w fun e w' => e = .returned (.bool (canW s)) ∧ w' = w := by
  have hsz : (bs s).size = s.length := bs_size s
  have CS := fun w => rSymbols_any s hs w
  have HW : Hid (canW s = (s.all isSym && decide (1 ≤ s.length) && decide (s.length ≤ 34))) := rfl
  generalize s.all isSym = A at *
  by_cases h1 : 1 ≤ s.length
  · have e1 : decide ((1 : Int) ≤ (s.length : Int)) = true := by simp; omega
    by_cases h2 : s.length ≤ 34
    · have e2 : decide ((s.length : Int) ≤ 34) = true := by simp; omega
      go_enter Tryz.func36, Tryz.ntmps36
      go_wp2_with ((with_reducible refine (CS _).mono ?_); rintro e w' ⟨rfl, rfl⟩)
      go_ret
      exact ⟨ret_bool (by rw [HW.out, decide_eq_true h1, decide_eq_true h2]; simp), rfl⟩
    · have e2 : decide ((s.length : Int) ≤ 34) = false := by simp; omega
      go_enter Tryz.func36, Tryz.ntmps36
      go_wp2_with fail
      go_ret
      exact ⟨ret_bool (by rw [HW.out, decide_eq_false h2]; simp), rfl⟩
  · have e1 : decide ((1 : Int) ≤ (s.length : Int)) = false := by simp; omega
    go_enter Tryz.func36, Tryz.ntmps36
    go_wp2_with fail
    go_ret
    exact ⟨ret_bool (by rw [HW.out, decide_eq_false h1]; simp), rfl⟩
/-- both sums divisible, and the length of a printed text -/
def prR (s : List UInt8) : Bool := decide (3 ≤ s.length) && decide (s.length ≤ 36) && decide (s1 (vals s) % 37 = 0) && decide (s2 0 (vals s) % 37 = 0)
theorem s1_step {s : List UInt8} {k : Nat} {c : UInt8} (h : s[k]? = some c) : s1 (vals (s.take (k + 1))) = s1 (vals (s.take k)) + symV c := by
  rw [List.take_add_one, h]
  unfold vals
  rw [List.map_append, s1_app]
  simp [s1]
theorem s2_step {s : List UInt8} {k : Nat} {c : UInt8} (h : s[k]? = some c) : s2 0 (vals (s.take (k + 1))) = s2 0 (vals (s.take k)) + symV c * ((k : Int) + 1) := by
  have hk : k < s.length := by rcases Nat.lt_or_ge k s.length with h' | h'; exact h'; rw [List.getElem?_eq_none h'] at h; cases h
  rw [List.take_add_one, h]
  unfold vals
  rw [List.map_append, s2_app]
  have : (List.map symV (s.take k)).length = k := by rw [List.length_map, List.length_take]; omega
  rw [this]
  simp [s2]
theorem s_bound (s : List UInt8) : ∀ k, k ≤ s.length → -(k : Int) ≤ s1 (vals (s.take k)) ∧ s1 (vals (s.take k)) ≤ 36 * k ∧ -(k : Int) * (s.length : Int) ≤ s2 0 (vals (s.take k)) ∧ s2 0 (vals (s.take k)) ≤ 36 * k * (s.length : Int) := by
  intro k
  induction k with
  | zero => intro _; simp [vals, s1, s2]
  | succ k ih =>
    intro hk
    obtain ⟨h1, h2, h3, h4⟩ := ih (by omega)
    have hc : s[k]? = some s[k] := List.getElem?_eq_getElem (by omega)
    rw [s1_step hc, s2_step hc]
    have hr := symV_range s[k]
    generalize symV s[k] = v at *
    have hm1 : -1 * (s.length : Int) ≤ v * ((k : Int) + 1) := by
      rcases Int.lt_or_le v 0 with h | h
      · obtain rfl : v = -1 := by omega
        omega
      · have : 0 ≤ v * ((k : Int) + 1) := Int.mul_nonneg h (by omega)
        omega
    have hm2 : v * ((k : Int) + 1) ≤ 36 * (s.length : Int) := by
      rcases Int.lt_or_le v 0 with h | h
      · obtain rfl : v = -1 := by omega
        omega
      · exact Int.le_trans (Int.mul_le_mul_of_nonneg_right hr.2 (by omega)) (by omega)
    refine ⟨by omega, by omega, ?_, ?_⟩
    · rw [Int.natCast_add, show -((k : Int) + (1 : Nat)) * (s.length : Int) = -(k : Int) * (s.length : Int) + -1 * (s.length : Int) by rw [Int.neg_add, Int.add_mul]; rfl]
      omega
    · rw [Int.natCast_add, show 36 * ((k : Int) + (1 : Nat)) * (s.length : Int) = 36 * (k : Int) * (s.length : Int) + 36 * (s.length : Int) by rw [Int.mul_add, Int.add_mul]; rfl]
      omega
def PrI (s : List UInt8) (w wr : World) (a b i : Value) : Prop := ∃ k : Nat, k ≤ s.length ∧ i = .int .i64 (k : Int) ∧ a = .int .i64 (s1 (vals (s.take k))) ∧ b = .int .i64 (s2 0 (vals (s.take k))) ∧ wr = w
set_option maxHeartbeats 2000000 in
theorem rPrinted_any (s : List UInt8) (hs : s.length ≤ 1000) (w : World) : Calls Tryz.prog 37 #[.string (bs s)] w fun e w' => e = .returned (.bool (prR s)) ∧ w' = w := by
  have hsz : (bs s).size = s.length := bs_size s
  have HR : Hid (prR s = (decide (3 ≤ s.length) && decide (s.length ≤ 36) && decide (s1 (vals s) % 37 = 0) && decide (s2 0 (vals s) % 37 = 0))) := rfl
  go_enter Tryz.func37, Tryz.ntmps37
  go_wp2_with fail
  go_loopw [3, 4, 5] (fun a b i wr => PrI s w wr a b i) (fun _ _ i _ => s.length - (intOf i).toNat)
  case atStart => exact ⟨0, by omega, rfl, rfl, rfl, rfl⟩
  case round =>
    obtain ⟨k, hk, rfl, rfl, rfl, rfl⟩ := hrel
    obtain ⟨b1, b2, b3, b4⟩ := s_bound s k hk
    by_cases hlt : k < s.length
    · have e1 : decide ((k : Int) < (s.length : Int)) = true := by simp; omega
      obtain ⟨c, hc⟩ : ∃ c, s[k]? = some c := ⟨_, List.getElem?_eq_getElem hlt⟩
      have ci := index_bs s k c hc
      have CV := fun w => rvalue_any c w
      have H1 := hide (s1_step hc)
      have H2 := hide (s2_step hc)
      have hr := symV_range c
      have hm1 : -1000 ≤ symV c * ((k : Int) + 1) := by
        rcases Int.lt_or_le (symV c) 0 with h | h
        · rw [show symV c = -1 by omega]; omega
        · have : 0 ≤ symV c * ((k : Int) + 1) := Int.mul_nonneg h (by omega)
          omega
      have hm2 : symV c * ((k : Int) + 1) ≤ 36000 := by
        rcases Int.lt_or_le (symV c) 0 with h | h
        · rw [show symV c = -1 by omega]; omega
        · exact Int.le_trans (Int.mul_le_mul_of_nonneg_right hr.2 (by omega)) (by omega)
      have hb3 : -1000000 ≤ s2 0 (vals (s.take k)) := by
        have : -(k : Int) * (s.length : Int) = -((k : Int) * (s.length : Int)) := by rw [Int.neg_mul]
        have h2 : (k : Int) * (s.length : Int) ≤ 1000 * 1000 := Int.mul_le_mul (by omega) (by omega) (by omega) (by omega)
        omega
      have hb4 : s2 0 (vals (s.take k)) ≤ 36000000 := by
        have h2 : 36 * (k : Int) * (s.length : Int) ≤ 36000 * 1000 := Int.mul_le_mul (by omega) (by omega) (by omega) (by omega)
        omega
      clear hc b3 b4
      generalize s1 (vals (s.take k)) = X at *
      generalize s2 0 (vals (s.take k)) = Y at *
      generalize hmm : symV c * ((k : Int) + 1) = M at *
      generalize symV c = v at *
      go_wp2_with ((with_reducible refine (CV _).mono ?_); rintro e w' ⟨rfl, rfl⟩)
      refine ⟨⟨k + 1, by omega, by go_num, by rw [H1.out], by rw [H2.out], (by first | rfl | trivial)⟩, ?_⟩
      simp [intOf]; omega
    · obtain rfl : k = s.length := by omega
      have e1 : decide ((s.length : Int) < (s.length : Int)) = false := by simp
      rw [List.take_length] at *
      clear b1 b2 b3 b4
      generalize s1 (vals s) = X at *
      generalize s2 0 (vals s) = Y at *
      have t : ∀ Z : Int, (Z.tmod 37 == 0) = decide (Z % 37 = 0) := fun Z => by
        by_cases h : Z % 37 = 0
        · rw [decide_eq_true h, beq_iff_eq]; exact Int.tmod_eq_zero_of_dvd (Int.dvd_of_emod_eq_zero h)
        · rw [decide_eq_false h, beq_eq_false_iff_ne]; exact fun h' => h (Int.emod_eq_zero_of_dvd (Int.dvd_of_tmod_eq_zero h'))
      have tX := t X
      have tY := t Y
      clear t
      by_cases h3 : 3 ≤ s.length
      · have e3 : decide ((3 : Int) ≤ (s.length : Int)) = true := by simp; omega
        by_cases h36 : s.length ≤ 36
        · have e36 : decide ((s.length : Int) ≤ 36) = true := by simp; omega
          by_cases hX : X % 37 = 0
          · rw [decide_eq_true hX] at tX
            by_cases hY : Y % 37 = 0
            · rw [decide_eq_true hY] at tY
              have HV : Hid (prR s = true) := by show _ = _; rw [HR.out, decide_eq_true h3, decide_eq_true h36, decide_eq_true hX, decide_eq_true hY]; rfl
              clear hX hY
              go_wp2_with fail
              go_ret
              exact ⟨ret_bool (by rw [HV.out]), rfl⟩
            · rw [decide_eq_false hY] at tY
              have HV : Hid (prR s = false) := by show _ = _; rw [HR.out, decide_eq_true h3, decide_eq_true h36, decide_eq_true hX, decide_eq_false hY]; rfl
              clear hX hY
              go_wp2_with fail
              go_ret
              exact ⟨ret_bool (by rw [HV.out]), rfl⟩
          · rw [decide_eq_false hX] at tX
            have HV : Hid (prR s = false) := by show _ = _; rw [HR.out, decide_eq_true h3, decide_eq_true h36, decide_eq_false hX]; rfl
            clear hX tY
            go_wp2_with fail
            go_ret
            exact ⟨ret_bool (by rw [HV.out]), rfl⟩
        · have e36 : decide ((s.length : Int) ≤ 36) = false := by simp; omega
          have HV : Hid (prR s = false) := by show _ = _; rw [HR.out, decide_eq_true h3, decide_eq_false h36]; rfl
          clear tX tY
          go_wp2_with fail
          go_ret
          exact ⟨ret_bool (by rw [HV.out]), rfl⟩
      · have e3 : decide ((3 : Int) ≤ (s.length : Int)) = false := by simp; omega
        have HV : Hid (prR s = false) := by show _ = _; rw [HR.out, decide_eq_false h3]; rfl
        clear tX tY
        go_wp2_with fail
        go_ret
        exact ⟨ret_bool (by rw [HV.out]), rfl⟩
end Go.Proofs.YtldicibhfmnjnaaGreatDoor

/- Walks of the reference of layer 46: digits, door, Valid, Pack. -/
set_option linter.unusedVariables false
set_option linter.unusedSimpArgs false
namespace Go.Proofs.YtldicibhfmnjnaaGreatDoor
open Go.RowKit

def PadI (m : Nat) (V : List UInt8) (w wr : World) (s : Value) : Prop := ∃ S : List UInt8, s = .string (bs S) ∧ List.replicate (m - S.length) 48 ++ S = V ∧ S.length ≤ 40 ∧ wr = w
set_option maxRecDepth 100000 in
set_option maxHeartbeats 2000000 in
theorem rdig_any (u : Nat) (hu : u ≤ 1000000) (m : Nat) (hm : m ≤ 10) (w : World) : Calls Tryz.prog 27 #[.int .i64 (u : Int), .int .i64 (m : Int)] w fun e w' => e = .returned (.string (bs (digP (u : Int) m))) ∧ w' = w := by
  have CD := fun w => rDecimal_any u (by omega) w
  have hlen := dec_len 19 u (by omega)
  have HV : Hid (digP (u : Int) m = List.replicate (m - (Lib.decDigits u).length) 48 ++ Lib.decDigits u) := by
    show _ = _
    have hi : Lib.itoa (u : Int) = Lib.decDigits u := by unfold Lib.itoa; rw [if_neg (by omega)]; simp
    unfold digP; rw [hi]
  go_enter Tryz.func27, Tryz.ntmps27
  go_wp2_with ((with_reducible refine (CD _).mono ?_); rintro e w' ⟨rfl, rfl⟩)
  clear CD
  go_loopw [5] (fun s wr => PadI m (digP (u : Int) m) w' wr s) (fun s _ => match s with | .string b => m - b.size | _ => 0)
  case atStart => exact ⟨Lib.decDigits u, rfl, HV.out.symm, by omega, (by first | rfl | trivial)⟩
  case round =>
    obtain ⟨S, rfl, hS, hl, rfl⟩ := hrel
    have HE := hide hS
    clear hS HV hlen
    have hz : (bs S).size = S.length := bs_size S
    by_cases h0 : S.length < m
    · have e1 : decide ((S.length : Int) < (m : Int)) = true := decide_eq_true (by omega)
      have ha : (⟨#[48]⟩ : ByteArray) ++ bs S = bs (48 :: S) := bs_app [48] S
      have hz1 : (⟨#[48]⟩ : ByteArray).size = 1 := rfl
      go_wp2_with fail
      refine ⟨⟨48 :: S, by first | rfl | rw [ha], ?_, by simp; omega, (by first | rfl | trivial)⟩, ?_⟩
      · rw [← HE.out]
        obtain ⟨q, hq⟩ : ∃ q, m - S.length = q + 1 := ⟨m - S.length - 1, by omega⟩
        have hq2 : m - (48 :: S).length = q := by simp; omega
        rw [hq, hq2, List.replicate_succ', List.append_assoc]; rfl
      · simp [bs_size]; omega
    · have e1 : decide ((S.length : Int) < (m : Int)) = false := decide_eq_false (by omega)
      have HF : Hid (S = digP (u : Int) m) := by show _ = _; rw [← HE.out, show m - S.length = 0 by omega]; rfl
      go_wp2_with fail
      go_ret
      exact ⟨ret_str' (by rw [HF.out]), rfl⟩
set_option maxRecDepth 100000 in
set_option maxHeartbeats 2000000 in
theorem rdoor_any (s : List UInt8) (hs : s.length ≤ 140737488355328) (w : World) : Calls Tryz.prog 53 #[.string (bs s)] w fun e w' => e = .returned (.bool (s.all sym36 && decide (s.length ≤ 12) && isNm s)) ∧ w' = w := by
  have hsz : (bs s).size = s.length := bs_size s
  have CN := fun w => rName_any s hs w
  go_enter Tryz.func53, Tryz.ntmps53
  go_wp2_with fail
  go_loopw [3] (fun i wr => ∃ k : Nat, i = .int .i64 (k : Int) ∧ (k ≤ s.length ∧ s.all sym36 = (s.drop k).all sym36) ∧ wr = w) (fun i _ => s.length - (intOf i).toNat)
  case atStart => exact ⟨0, rfl, ⟨by omega, rfl⟩, rfl⟩
  case round =>
    obtain ⟨k, rfl, ⟨hk, hall⟩, rfl⟩ := hrel
    have HA := hide hall
    clear hall
    by_cases hlt : k < s.length
    · have e1 : decide ((k : Int) < (s.length : Int)) = true := decide_eq_true (by omega)
      obtain ⟨c, hc⟩ : ∃ c, s[k]? = some c := ⟨_, List.getElem?_eq_getElem hlt⟩
      have ci := index_bs s k c hc
      have CV := fun w => rvalue_any c w
      have HD := hide (drop_at hc)
      have HS : Hid (sym36 c = (decide (0 ≤ symV c) && c != 45)) := rfl
      clear hc CN
      generalize symV c = v at *
      by_cases hv : v < 0
      · have e2 : decide (v < 0) = true := decide_eq_true hv
        go_wp2_with ((with_reducible refine (CV _).mono ?_); rintro e w' ⟨rfl, rfl⟩)
        go_ret
        exact ⟨ret_bool (by rw [HA.out, HD.out, List.all_cons, HS.out, decide_eq_false (by omega)]; rfl), rfl⟩
      · have e2 : decide (v < 0) = false := decide_eq_false hv
        by_cases h45 : c = 45
        · have e3 : ((c.toNat : Int) == 45) = true := by rw [h45]; rfl
          have HS2 : Hid (sym36 c = false) := by show _ = _; rw [HS.out, h45]; simp
          clear h45 HS
          go_wp2_with ((with_reducible refine (CV _).mono ?_); rintro e w' ⟨rfl, rfl⟩)
          go_ret
          exact ⟨ret_bool (by rw [HA.out, HD.out, List.all_cons, HS2.out]; rfl), rfl⟩
        · have e3 : ((c.toNat : Int) == 45) = false := by
            rw [beq_eq_false_iff_ne]; intro h'; exact h45 (UInt8.toNat_inj.1 (by show c.toNat = 45; omega))
          have HS2 : Hid (sym36 c = true) := by show _ = _; rw [HS.out, decide_eq_true (by omega)]; simp [h45]
          clear h45 HS
          go_wp2_with ((with_reducible refine (CV _).mono ?_); rintro e w' ⟨rfl, rfl⟩)
          refine ⟨⟨k + 1, by go_num, ⟨by omega, by rw [HA.out, HD.out, List.all_cons, HS2.out]; rfl⟩, (by first | rfl | trivial)⟩, ?_⟩
          simp [intOf]; omega
    · obtain rfl : k = s.length := by omega
      have e1 : decide ((s.length : Int) < (s.length : Int)) = false := by simp
      have HT : Hid (s.all sym36 = true) := by show _ = _; rw [HA.out, List.drop_length]; rfl
      clear HA
      by_cases h12 : s.length ≤ 12
      · have e2 : decide ((s.length : Int) ≤ 12) = true := decide_eq_true (by omega)
        have HF : Hid ((s.all sym36 && decide (s.length ≤ 12) && isNm s) = isNm s) := by show _ = _; rw [HT.out, decide_eq_true h12]; simp
        go_wp2_with ((with_reducible refine (CN _).mono ?_); rintro e w' ⟨rfl, rfl⟩)
        go_ret
        exact ⟨ret_bool (by rw [HF.out]), rfl⟩
      · have e2 : decide ((s.length : Int) ≤ 12) = false := decide_eq_false (by omega)
        have HF : Hid ((s.all sym36 && decide (s.length ≤ 12) && isNm s) = false) := by show _ = _; rw [decide_eq_false h12]; simp
        go_wp2_with fail
        go_ret
        exact ⟨ret_bool (by rw [HF.out]), rfl⟩
theorem goodL_eq (ad : List UInt8) (ao az ah : Int) : goodL ad ao az ah = ((ad.all sym36 && decide (ad.length ≤ 12) && isNm ad) && (decide (0 ≤ ao) && (decide (ao ≤ 63) && (decide (0 ≤ ah) && (decide (ah ≤ 63) && (decide (-1 ≤ az) && decide (az ≤ 100000))))))) := by
  unfold goodL
  rw [show decide (ao < 64) = decide (ao ≤ 63) from decide_eq_decide.2 (by omega), show decide (ah < 64) = decide (ah ≤ 63) from decide_eq_decide.2 (by omega)]
  generalize isNm ad = A
  generalize ad.all sym36 = B
  generalize decide (ad.length ≤ 12) = C
  generalize decide (0 ≤ ao) = E
  generalize decide (ao ≤ 63) = F
  generalize decide (0 ≤ ah) = G
  generalize decide (ah ≤ 63) = H
  generalize decide (-1 ≤ az) = I
  generalize decide (az ≤ 100000) = J
  cases A <;> cases B <;> cases C <;> cases E <;> cases F <;> cases G <;> cases H <;> cases I <;> cases J <;> rfl
set_option maxRecDepth 100000 in
set_option maxHeartbeats 4000000 in
theorem rValid_any (ad : List UInt8) (hl : ad.length ≤ 140737488355328) (ao az ah : Int) (ab : Bool) (w : World) : Calls Tryz.prog 26 #[lval ad ao az ah ab] w fun e w' => e = .returned (.bool (goodL ad ao az ah)) ∧ Below w.heap.size w w' := by
  have CD := fun w => rdoor_any ad hl w
  have HG := hide (goodL_eq ad ao az ah)
  have HB := hide (below_one w (.cells #[.string (bs ad), .int .i64 ao, .int .i64 az, .int .i64 ah, .bool ab] 23))
  unfold lval
  generalize (ad.all sym36 && decide (ad.length ≤ 12) && isNm ad) = D at *
  cases D with
  | false =>
    go_enter Tryz.func26, Tryz.ntmps26
    go_wp2_with ((with_reducible refine (CD _).mono ?_); rintro e w' ⟨rfl, rfl⟩)
    go_ret
    exact ⟨ret_bool (by rw [HG.out]; rfl), HB.out⟩
  | true =>
    cases c0 : decide (0 ≤ ao) with
    | false =>
      go_enter Tryz.func26, Tryz.ntmps26
      go_wp2_with ((with_reducible refine (CD _).mono ?_); rintro e w' ⟨rfl, rfl⟩)
      go_ret
      exact ⟨ret_bool (by rw [HG.out, c0]; simp), HB.out⟩
    | true =>
      cases c1 : decide (ao ≤ 63) with
      | false =>
        go_enter Tryz.func26, Tryz.ntmps26
        go_wp2_with ((with_reducible refine (CD _).mono ?_); rintro e w' ⟨rfl, rfl⟩)
        go_ret
        exact ⟨ret_bool (by rw [HG.out, c0, c1]; simp), HB.out⟩
      | true =>
        cases c2 : decide (0 ≤ ah) with
        | false =>
          go_enter Tryz.func26, Tryz.ntmps26
          go_wp2_with ((with_reducible refine (CD _).mono ?_); rintro e w' ⟨rfl, rfl⟩)
          go_ret
          exact ⟨ret_bool (by rw [HG.out, c0, c1, c2]; simp), HB.out⟩
        | true =>
          cases c3 : decide (ah ≤ 63) with
          | false =>
            go_enter Tryz.func26, Tryz.ntmps26
            go_wp2_with ((with_reducible refine (CD _).mono ?_); rintro e w' ⟨rfl, rfl⟩)
            go_ret
            exact ⟨ret_bool (by rw [HG.out, c0, c1, c2, c3]; simp), HB.out⟩
          | true =>
            cases c4 : decide (-1 ≤ az) with
            | false =>
              go_enter Tryz.func26, Tryz.ntmps26
              go_wp2_with ((with_reducible refine (CD _).mono ?_); rintro e w' ⟨rfl, rfl⟩)
              go_ret
              exact ⟨ret_bool (by rw [HG.out, c0, c1, c2, c3, c4]; simp), HB.out⟩
            | true =>
              cases c5 : decide (az ≤ 100000) with
              | false =>
                go_enter Tryz.func26, Tryz.ntmps26
                go_wp2_with ((with_reducible refine (CD _).mono ?_); rintro e w' ⟨rfl, rfl⟩)
                go_ret
                exact ⟨ret_bool (by rw [HG.out, c0, c1, c2, c3, c4, c5]; simp), HB.out⟩
              | true =>
                go_enter Tryz.func26, Tryz.ntmps26
                go_wp2_with ((with_reducible refine (CD _).mono ?_); rintro e w' ⟨rfl, rfl⟩)
                go_ret
                exact ⟨ret_bool (by rw [HG.out, c0, c1, c2, c3, c4, c5]; simp), HB.out⟩
end Go.Proofs.YtldicibhfmnjnaaGreatDoor

/- Walks of the reference of layer 46: Pack, number, Unpack. -/
set_option linter.unusedVariables false
set_option linter.unusedSimpArgs false
namespace Go.Proofs.YtldicibhfmnjnaaGreatDoor
open Go.RowKit

set_option maxRecDepth 100000 in
set_option maxHeartbeats 4000000 in
theorem rPack_any (d : List UInt8) (hl : d.length ≤ 140737488355328) (o s h : Int) (b : Bool) (w : World) : Calls Tryz.prog 13 #[lval d o s h b] w fun e w' => e = .returned (.tuple #[.string (bs (pkP d o s h b)), .int .i64 (pkE d o s h)]) ∧ Below w.heap.size w w' := by
  have CV := fun w => rValid_any d hl o s h b w
  have HB1 := hide (below_one w (.cells #[.string (bs d), .int .i64 o, .int .i64 s, .int .i64 h, .bool b] 23))
  have HX := hide (Blk.new w 23 #[.string (bs d), .int .i64 o, .int .i64 s, .int .i64 h, .bool b])
  have hsz : (bs d).size = d.length := bs_size d
  unfold lval at CV
  unfold lval pkP pkE
  cases hg : goodL d o s h with
  | false =>
    rw [hg] at CV
    simp only [Bool.false_eq_true, if_false]
    clear hg
    go_enter Tryz.func13, Tryz.ntmps13
    go_wp2_with fail
    refine (CV _).mono ?_
    rintro e w2 ⟨rfl, hb⟩
    have HB2 := hide (below_to HB1.out (Nat.le_refl _) hb)
    clear hb
    go_wp2_with fail
    go_ret2
    exact ⟨rfl, HB2.out⟩
  | true =>
    rw [hg] at CV
    simp only [if_true]
    obtain ⟨hnm, hl12, hall, hs0, hs1, ho0, ho1, hh0, hh1⟩ := good_facts hg
    have hws := w64 (x := s + 1) (by omega) (by omega)
    have CD : ∀ (n : Int) (m : Nat), 0 ≤ n → n ≤ 1000000 → m ≤ 10 → ∀ w, Calls Tryz.prog 27 #[.int .i64 n, .int .i64 (m : Int)] w fun e w' => e = .returned (.string (bs (digP n m))) ∧ Below w.heap.size w w' := fun n m h0 h1 hm w => by
      obtain ⟨u, rfl⟩ : ∃ u : Nat, n = u := ⟨n.toNat, by omega⟩
      exact (rdig_any u (by omega) m hm w).mono fun e w' ⟨he, hw⟩ => ⟨he, hw ▸ Below.refl _ _⟩
    have CD1 : ∀ w, Calls Tryz.prog 27 #[.int .i64 o, .int .i64 2] w fun e w' => e = .returned (.string (bs (digP o 2))) ∧ Below w.heap.size w w' := CD o 2 ho0 (by omega) (by omega)
    have CD2 : ∀ w, Calls Tryz.prog 27 #[.int .i64 h, .int .i64 2] w fun e w' => e = .returned (.string (bs (digP h 2))) ∧ Below w.heap.size w w' := CD h 2 hh0 (by omega) (by omega)
    have CD3 : ∀ w, Calls Tryz.prog 27 #[.int .i64 (s + 1), .int .i64 6] w fun e w' => e = .returned (.string (bs (digP (s + 1) 6))) ∧ Below w.heap.size w w' := CD (s + 1) 6 (by omega) (by omega) (by omega)
    have z1 : (bs (digP o 2)).size ≤ 20 := by rw [bs_size, (digP_facts (n := o) (m := 2) ho0 (by omega) (by omega) (by omega)).1]; omega
    have z2 : (bs (digP h 2)).size ≤ 20 := by rw [bs_size, (digP_facts (n := h) (m := 2) hh0 (by omega) (by omega) (by omega)).1]; omega
    have z3 : (bs (digP (s + 1) 6)).size ≤ 20 := by rw [bs_size, (digP_facts (n := s + 1) (m := 6) (by omega) (by omega) (by omega) (by omega)).1]; omega
    have n1 : ¬ 9223372036854775807 < 1 + (bs (digP o 2)).size := by omega
    have n2 : ¬ 9223372036854775807 < 1 + (bs (digP o 2)).size + (bs (digP h 2)).size := by omega
    have n3 : ¬ 9223372036854775807 < 1 + (bs (digP o 2)).size + (bs (digP h 2)).size + (bs (digP (s + 1) 6)).size := by omega
    have n4 : ¬ 9223372036854775807 < 1 + (bs (digP o 2)).size + (bs (digP h 2)).size + (bs (digP (s + 1) 6)).size + d.length := by omega
    clear hg hnm hall CD z1 z2 z3
    cases b
    · have HP : Hid (packP d o s h false = [48] ++ digP o 2 ++ digP h 2 ++ digP (s + 1) 6 ++ d) := rfl
      go_enter Tryz.func13, Tryz.ntmps13
      go_wp2_with fail
      refine (CV _).mono ?_
      rintro e w2 ⟨rfl, hb⟩
      have HB2 := hide (below_to HB1.out (Nat.le_refl _) hb)
      have HX2 := hide (HX.out.to hb)
      clear hb HB1 HX
      obtain ⟨bx, hbx⟩ : ∃ bx, Hid (w.heap.size = bx) := ⟨_, rfl⟩
      rw [hbx.out] at HX2 ⊢
      obtain ⟨U, hU, g, u0, rfl, hgu, hi⟩ := cls w2
      have x0 := blk_all hgu HX2.out 0 rfl
      have x1 := blk_all hgu HX2.out 1 rfl
      have x2 := blk_all hgu HX2.out 2 rfl
      have x3 := blk_all hgu HX2.out 3 rfl
      have x4 := blk_all hgu HX2.out 4 rfl
      go_wp2_with fail
      apply wp_region_looseG g (V := [some _, some _, some _, some _, some _, some _, some _, some _, some _, some _, some _, some _, some _, some _, some _, some _, some _, some _, some _]) (Fs := []) (Rel := fun _ w w' => Below w.heap.size w w')
      case hm => kernel_rfl
      case hB => kernel_rfl
      case hCw => exact hi _ (hgu _).drew
      case hC =>
        rintro i uq w' hr
        exact hi _ (below_to (hgu uq) (Nat.le_refl _) hr)
      case hst =>
        exact keeps_nil
      case hop =>
        refine ⟨?_, ?_, ?_, ?_, ?_, ?_, ?_, ?_, ?_, ?_, ?_, ?_, ?_, ?_, ?_, ?_, ?_, ?_, ?_, trivial⟩
        · intro a uq K hS hd hK
          have s4 := hS.at 4 (by kernel_rfl) rfl
          rw [if_pos (want_free rfl)]
          go_simp
          exact hK _ _ (Below.refl _ _) (vok rfl) facts_nil
        · intro a uq K hS hd hK
          have s1 := hS.at 1 (by kernel_rfl) rfl
          rw [if_pos (want_free rfl)]
          go_simp
          exact hK _ _ (Below.refl _ _) (vok rfl) facts_nil
        · intro a uq K hS hd hK
          have s11 := (waits_on hd 1 (by kernel_rfl)).at (d := 11) rfl rfl rfl
          rw [if_pos (want_free rfl)]
          go_simp
          exact hK _ _ (Below.refl _ _) (vok rfl) facts_nil
        · intro a uq K hS hd hK
          have s12 := (waits_on hd 2 (by kernel_rfl)).at (d := 12) rfl rfl rfl
          rw [if_pos (want_free rfl)]
          go_simp
          with_reducible refine (CD1 (g uq)).mono ?_
          rintro e w' ⟨rfl, hb⟩
          exact hK _ _ hb (vok rfl) facts_nil
        · intro a uq K hS hd hK
          have s10 := (waits_on hd 0 (by kernel_rfl)).at (d := 10) rfl rfl rfl
          have s13 := (waits_on hd 3 (by kernel_rfl)).at (d := 13) rfl rfl rfl
          rw [if_pos (want_free rfl)]
          go_simp
          exact hK _ _ (Below.refl _ _) (vok rfl) facts_nil
        · intro a uq K hS hd hK
          have s1 := hS.at 1 (by kernel_rfl) rfl
          rw [if_pos (want_free rfl)]
          go_simp
          exact hK _ _ (Below.refl _ _) (vok rfl) facts_nil
        · intro a uq K hS hd hK
          have s15 := (waits_on hd 5 (by kernel_rfl)).at (d := 15) rfl rfl rfl
          rw [if_pos (want_free rfl)]
          go_simp
          exact hK _ _ (Below.refl _ _) (vok rfl) facts_nil
        · intro a uq K hS hd hK
          have s16 := (waits_on hd 6 (by kernel_rfl)).at (d := 16) rfl rfl rfl
          rw [if_pos (want_free rfl)]
          go_simp
          with_reducible refine (CD2 (g uq)).mono ?_
          rintro e w' ⟨rfl, hb⟩
          exact hK _ _ hb (vok rfl) facts_nil
        · intro a uq K hS hd hK
          have s14 := (waits_on hd 4 (by kernel_rfl)).at (d := 14) rfl rfl rfl
          have s17 := (waits_on hd 7 (by kernel_rfl)).at (d := 17) rfl rfl rfl
          rw [if_pos (want_free rfl)]
          go_simp
          exact hK _ _ (Below.refl _ _) (vok rfl) facts_nil
        · intro a uq K hS hd hK
          have s1 := hS.at 1 (by kernel_rfl) rfl
          rw [if_pos (want_free rfl)]
          go_simp
          exact hK _ _ (Below.refl _ _) (vok rfl) facts_nil
        · intro a uq K hS hd hK
          have s19 := (waits_on hd 9 (by kernel_rfl)).at (d := 19) rfl rfl rfl
          rw [if_pos (want_free rfl)]
          go_simp
          exact hK _ _ (Below.refl _ _) (vok rfl) facts_nil
        · intro a uq K hS hd hK
          have s20 := (waits_on hd 10 (by kernel_rfl)).at (d := 20) rfl rfl rfl
          rw [if_pos (want_free rfl)]
          go_simp
          exact hK _ _ (Below.refl _ _) (vok rfl) facts_nil
        · intro a uq K hS hd hK
          have s21 := (waits_on hd 11 (by kernel_rfl)).at (d := 21) rfl rfl rfl
          rw [if_pos (want_free rfl)]
          go_simp
          with_reducible refine (CD3 (g uq)).mono ?_
          rintro e w' ⟨rfl, hb⟩
          exact hK _ _ hb (vok rfl) facts_nil
        · intro a uq K hS hd hK
          have s18 := (waits_on hd 8 (by kernel_rfl)).at (d := 18) rfl rfl rfl
          have s22 := (waits_on hd 12 (by kernel_rfl)).at (d := 22) rfl rfl rfl
          rw [if_pos (want_free rfl)]
          go_simp
          exact hK _ _ (Below.refl _ _) (vok rfl) facts_nil
        · intro a uq K hS hd hK
          have s1 := hS.at 1 (by kernel_rfl) rfl
          rw [if_pos (want_free rfl)]
          go_simp
          exact hK _ _ (Below.refl _ _) (vok rfl) facts_nil
        · intro a uq K hS hd hK
          have s24 := (waits_on hd 14 (by kernel_rfl)).at (d := 24) rfl rfl rfl
          rw [if_pos (want_free rfl)]
          go_simp
          exact hK _ _ (Below.refl _ _) (vok rfl) facts_nil
        · intro a uq K hS hd hK
          have s23 := (waits_on hd 13 (by kernel_rfl)).at (d := 23) rfl rfl rfl
          have s25 := (waits_on hd 15 (by kernel_rfl)).at (d := 25) rfl rfl rfl
          rw [if_pos (want_free rfl)]
          go_simp
          exact hK _ _ (Below.refl _ _) (vok rfl) facts_nil
        · intro a uq K hS hd hK
          have s26 := (waits_on hd 16 (by kernel_rfl)).at (d := 26) rfl rfl rfl
          rw [if_pos (want_free rfl)]
          go_simp
          exact hK _ _ (Below.refl _ _) (vok rfl) facts_nil
        · intro a uq K hS hd hK
          rw [if_pos (want_free rfl)]
          go_simp
          exact hK _ _ (Below.refl _ _) (vok rfl) facts_nil
      case hfin =>
        intro a uq hS hk
        have s10 := (hk 0 (by decide)).at (d := 10) rfl rfl rfl
        have s11 := (hk 1 (by decide)).at (d := 11) rfl rfl rfl
        have s12 := (hk 2 (by decide)).at (d := 12) rfl rfl rfl
        have s13 := (hk 3 (by decide)).at (d := 13) rfl rfl rfl
        have s14 := (hk 4 (by decide)).at (d := 14) rfl rfl rfl
        have s15 := (hk 5 (by decide)).at (d := 15) rfl rfl rfl
        have s16 := (hk 6 (by decide)).at (d := 16) rfl rfl rfl
        have s17 := (hk 7 (by decide)).at (d := 17) rfl rfl rfl
        have s18 := (hk 8 (by decide)).at (d := 18) rfl rfl rfl
        have s19 := (hk 9 (by decide)).at (d := 19) rfl rfl rfl
        have s20 := (hk 10 (by decide)).at (d := 20) rfl rfl rfl
        have s21 := (hk 11 (by decide)).at (d := 21) rfl rfl rfl
        have s22 := (hk 12 (by decide)).at (d := 22) rfl rfl rfl
        have s23 := (hk 13 (by decide)).at (d := 23) rfl rfl rfl
        have s24 := (hk 14 (by decide)).at (d := 24) rfl rfl rfl
        have s25 := (hk 15 (by decide)).at (d := 25) rfl rfl rfl
        have s26 := (hk 16 (by decide)).at (d := 26) rfl rfl rfl
        have s2 := (hk 17 (by decide)).at (d := 2) rfl rfl rfl
        have s3 := (hk 18 (by decide)).at (d := 3) rfl rfl rfl
        have hlit := hS.lit _ (by kernel_rfl) (lits_cons s10 (lits_cons s11 (lits_cons s12 (lits_cons s13 (lits_cons s14 (lits_cons s15 (lits_cons s16 (lits_cons s17 (lits_cons s18 (lits_cons s19 (lits_cons s20 (lits_cons s21 (lits_cons s22 (lits_cons s23 (lits_cons s24 (lits_cons s25 (lits_cons s26 (lits_cons s2 (lits_cons s3 lits_nil)))))))))))))))))))
        rw [hlit]
        clear hlit hk hS s10 s11 s12 s13 s14 s15 s16 s17 s18 s19 s20 s21 s22 s23 s24 s25 s26 s2 s3
        simp only [litT, List.setIfInBounds_toArray, List.set_cons_succ, List.set_cons_zero]
        go_wp2_with fail
        go_ret2
        exact ⟨by rw [HP.out, ← bs_app, ← bs_app, ← bs_app, ← bs_app]; rfl, below_to HB2.out (Nat.le_refl _) (hgu _)⟩
    · have HP : Hid (packP d o s h true = [49] ++ digP o 2 ++ digP h 2 ++ digP (s + 1) 6 ++ d) := rfl
      go_enter Tryz.func13, Tryz.ntmps13
      go_wp2_with fail
      refine (CV _).mono ?_
      rintro e w2 ⟨rfl, hb⟩
      have HB2 := hide (below_to HB1.out (Nat.le_refl _) hb)
      have HX2 := hide (HX.out.to hb)
      clear hb HB1 HX
      obtain ⟨bx, hbx⟩ : ∃ bx, Hid (w.heap.size = bx) := ⟨_, rfl⟩
      rw [hbx.out] at HX2 ⊢
      obtain ⟨U, hU, g, u0, rfl, hgu, hi⟩ := cls w2
      have x0 := blk_all hgu HX2.out 0 rfl
      have x1 := blk_all hgu HX2.out 1 rfl
      have x2 := blk_all hgu HX2.out 2 rfl
      have x3 := blk_all hgu HX2.out 3 rfl
      have x4 := blk_all hgu HX2.out 4 rfl
      go_wp2_with fail
      apply wp_region_looseG g (V := [some _, some _, some _, some _, some _, some _, some _, some _, some _, some _, some _, some _, some _, some _, some _, some _, some _, some _, some _]) (Fs := []) (Rel := fun _ w w' => Below w.heap.size w w')
      case hm => kernel_rfl
      case hB => kernel_rfl
      case hCw => exact hi _ (hgu _).drew
      case hC =>
        rintro i uq w' hr
        exact hi _ (below_to (hgu uq) (Nat.le_refl _) hr)
      case hst =>
        exact keeps_nil
      case hop =>
        refine ⟨?_, ?_, ?_, ?_, ?_, ?_, ?_, ?_, ?_, ?_, ?_, ?_, ?_, ?_, ?_, ?_, ?_, ?_, ?_, trivial⟩
        · intro a uq K hS hd hK
          have s4 := hS.at 4 (by kernel_rfl) rfl
          rw [if_pos (want_free rfl)]
          go_simp
          exact hK _ _ (Below.refl _ _) (vok rfl) facts_nil
        · intro a uq K hS hd hK
          have s1 := hS.at 1 (by kernel_rfl) rfl
          rw [if_pos (want_free rfl)]
          go_simp
          exact hK _ _ (Below.refl _ _) (vok rfl) facts_nil
        · intro a uq K hS hd hK
          have s11 := (waits_on hd 1 (by kernel_rfl)).at (d := 11) rfl rfl rfl
          rw [if_pos (want_free rfl)]
          go_simp
          exact hK _ _ (Below.refl _ _) (vok rfl) facts_nil
        · intro a uq K hS hd hK
          have s12 := (waits_on hd 2 (by kernel_rfl)).at (d := 12) rfl rfl rfl
          rw [if_pos (want_free rfl)]
          go_simp
          with_reducible refine (CD1 (g uq)).mono ?_
          rintro e w' ⟨rfl, hb⟩
          exact hK _ _ hb (vok rfl) facts_nil
        · intro a uq K hS hd hK
          have s10 := (waits_on hd 0 (by kernel_rfl)).at (d := 10) rfl rfl rfl
          have s13 := (waits_on hd 3 (by kernel_rfl)).at (d := 13) rfl rfl rfl
          rw [if_pos (want_free rfl)]
          go_simp
          exact hK _ _ (Below.refl _ _) (vok rfl) facts_nil
        · intro a uq K hS hd hK
          have s1 := hS.at 1 (by kernel_rfl) rfl
          rw [if_pos (want_free rfl)]
          go_simp
          exact hK _ _ (Below.refl _ _) (vok rfl) facts_nil
        · intro a uq K hS hd hK
          have s15 := (waits_on hd 5 (by kernel_rfl)).at (d := 15) rfl rfl rfl
          rw [if_pos (want_free rfl)]
          go_simp
          exact hK _ _ (Below.refl _ _) (vok rfl) facts_nil
        · intro a uq K hS hd hK
          have s16 := (waits_on hd 6 (by kernel_rfl)).at (d := 16) rfl rfl rfl
          rw [if_pos (want_free rfl)]
          go_simp
          with_reducible refine (CD2 (g uq)).mono ?_
          rintro e w' ⟨rfl, hb⟩
          exact hK _ _ hb (vok rfl) facts_nil
        · intro a uq K hS hd hK
          have s14 := (waits_on hd 4 (by kernel_rfl)).at (d := 14) rfl rfl rfl
          have s17 := (waits_on hd 7 (by kernel_rfl)).at (d := 17) rfl rfl rfl
          rw [if_pos (want_free rfl)]
          go_simp
          exact hK _ _ (Below.refl _ _) (vok rfl) facts_nil
        · intro a uq K hS hd hK
          have s1 := hS.at 1 (by kernel_rfl) rfl
          rw [if_pos (want_free rfl)]
          go_simp
          exact hK _ _ (Below.refl _ _) (vok rfl) facts_nil
        · intro a uq K hS hd hK
          have s19 := (waits_on hd 9 (by kernel_rfl)).at (d := 19) rfl rfl rfl
          rw [if_pos (want_free rfl)]
          go_simp
          exact hK _ _ (Below.refl _ _) (vok rfl) facts_nil
        · intro a uq K hS hd hK
          have s20 := (waits_on hd 10 (by kernel_rfl)).at (d := 20) rfl rfl rfl
          rw [if_pos (want_free rfl)]
          go_simp
          exact hK _ _ (Below.refl _ _) (vok rfl) facts_nil
        · intro a uq K hS hd hK
          have s21 := (waits_on hd 11 (by kernel_rfl)).at (d := 21) rfl rfl rfl
          rw [if_pos (want_free rfl)]
          go_simp
          with_reducible refine (CD3 (g uq)).mono ?_
          rintro e w' ⟨rfl, hb⟩
          exact hK _ _ hb (vok rfl) facts_nil
        · intro a uq K hS hd hK
          have s18 := (waits_on hd 8 (by kernel_rfl)).at (d := 18) rfl rfl rfl
          have s22 := (waits_on hd 12 (by kernel_rfl)).at (d := 22) rfl rfl rfl
          rw [if_pos (want_free rfl)]
          go_simp
          exact hK _ _ (Below.refl _ _) (vok rfl) facts_nil
        · intro a uq K hS hd hK
          have s1 := hS.at 1 (by kernel_rfl) rfl
          rw [if_pos (want_free rfl)]
          go_simp
          exact hK _ _ (Below.refl _ _) (vok rfl) facts_nil
        · intro a uq K hS hd hK
          have s24 := (waits_on hd 14 (by kernel_rfl)).at (d := 24) rfl rfl rfl
          rw [if_pos (want_free rfl)]
          go_simp
          exact hK _ _ (Below.refl _ _) (vok rfl) facts_nil
        · intro a uq K hS hd hK
          have s23 := (waits_on hd 13 (by kernel_rfl)).at (d := 23) rfl rfl rfl
          have s25 := (waits_on hd 15 (by kernel_rfl)).at (d := 25) rfl rfl rfl
          rw [if_pos (want_free rfl)]
          go_simp
          exact hK _ _ (Below.refl _ _) (vok rfl) facts_nil
        · intro a uq K hS hd hK
          have s26 := (waits_on hd 16 (by kernel_rfl)).at (d := 26) rfl rfl rfl
          rw [if_pos (want_free rfl)]
          go_simp
          exact hK _ _ (Below.refl _ _) (vok rfl) facts_nil
        · intro a uq K hS hd hK
          rw [if_pos (want_free rfl)]
          go_simp
          exact hK _ _ (Below.refl _ _) (vok rfl) facts_nil
      case hfin =>
        intro a uq hS hk
        have s10 := (hk 0 (by decide)).at (d := 10) rfl rfl rfl
        have s11 := (hk 1 (by decide)).at (d := 11) rfl rfl rfl
        have s12 := (hk 2 (by decide)).at (d := 12) rfl rfl rfl
        have s13 := (hk 3 (by decide)).at (d := 13) rfl rfl rfl
        have s14 := (hk 4 (by decide)).at (d := 14) rfl rfl rfl
        have s15 := (hk 5 (by decide)).at (d := 15) rfl rfl rfl
        have s16 := (hk 6 (by decide)).at (d := 16) rfl rfl rfl
        have s17 := (hk 7 (by decide)).at (d := 17) rfl rfl rfl
        have s18 := (hk 8 (by decide)).at (d := 18) rfl rfl rfl
        have s19 := (hk 9 (by decide)).at (d := 19) rfl rfl rfl
        have s20 := (hk 10 (by decide)).at (d := 20) rfl rfl rfl
        have s21 := (hk 11 (by decide)).at (d := 21) rfl rfl rfl
        have s22 := (hk 12 (by decide)).at (d := 22) rfl rfl rfl
        have s23 := (hk 13 (by decide)).at (d := 23) rfl rfl rfl
        have s24 := (hk 14 (by decide)).at (d := 24) rfl rfl rfl
        have s25 := (hk 15 (by decide)).at (d := 25) rfl rfl rfl
        have s26 := (hk 16 (by decide)).at (d := 26) rfl rfl rfl
        have s2 := (hk 17 (by decide)).at (d := 2) rfl rfl rfl
        have s3 := (hk 18 (by decide)).at (d := 3) rfl rfl rfl
        have hlit := hS.lit _ (by kernel_rfl) (lits_cons s10 (lits_cons s11 (lits_cons s12 (lits_cons s13 (lits_cons s14 (lits_cons s15 (lits_cons s16 (lits_cons s17 (lits_cons s18 (lits_cons s19 (lits_cons s20 (lits_cons s21 (lits_cons s22 (lits_cons s23 (lits_cons s24 (lits_cons s25 (lits_cons s26 (lits_cons s2 (lits_cons s3 lits_nil)))))))))))))))))))
        rw [hlit]
        clear hlit hk hS s10 s11 s12 s13 s14 s15 s16 s17 s18 s19 s20 s21 s22 s23 s24 s25 s26 s2 s3
        simp only [litT, List.setIfInBounds_toArray, List.set_cons_succ, List.set_cons_zero]
        go_wp2_with fail
        go_ret2
        exact ⟨by rw [HP.out, ← bs_app, ← bs_app, ← bs_app, ← bs_app]; rfl, below_to HB2.out (Nat.le_refl _) (hgu _)⟩
/-! number -/
def nuR (l : List UInt8) : Int := l.foldl (fun n c => 10 * n + (c.toNat : Int) - 48) 0
theorem nuR_snoc (l : List UInt8) (c : UInt8) : nuR (l ++ [c]) = 10 * nuR l + (c.toNat : Int) - 48 := by simp [nuR]
theorem nuR_go : ∀ (l : List UInt8) (a : Int), a * 10 ^ l.length - 30 * (10 ^ l.length - 1) ≤ l.foldl (fun n c => 10 * n + (c.toNat : Int) - 48) a ∧ l.foldl (fun n c => 10 * n + (c.toNat : Int) - 48) a ≤ a * 10 ^ l.length + 30 * (10 ^ l.length - 1)
  | [], a => by simp
  | c :: l, a => by
    obtain ⟨h1, h2⟩ := nuR_go l (10 * a + (c.toNat : Int) - 48)
    rw [List.foldl_cons, List.length_cons, Int.pow_succ]
    have hc := c.toNat_lt
    have hP : (1 : Int) ≤ 10 ^ l.length := by
      have h := Nat.pow_pos (n := l.length) (show 0 < 10 by decide)
      have h2 : ((10 ^ l.length : Nat) : Int) = (10 : Int) ^ l.length := by rw [Int.natCast_pow]; rfl
      omega
    generalize (10 : Int) ^ l.length = P at *
    obtain ⟨v, hv, hv0, hv1⟩ : ∃ v : Int, v = (c.toNat : Int) - 48 ∧ -48 ≤ v ∧ v ≤ 207 := ⟨_, rfl, by omega, by omega⟩
    rw [show 10 * a + (c.toNat : Int) - 48 = 10 * a + v by omega] at h1 h2 ⊢
    have e : (10 * a + v) * P = a * (P * 10) + v * P := by rw [Int.add_mul, Int.mul_comm P 10, ← Int.mul_assoc, Int.mul_comm a 10]
    rw [e] at h1 h2
    have hu : v * P ≤ 207 * P := Int.mul_le_mul_of_nonneg_right hv1 (by omega)
    have hl : -48 * P ≤ v * P := Int.mul_le_mul_of_nonneg_right hv0 (by omega)
    generalize a * (P * 10) = Q at *
    generalize v * P = V at *
    omega
theorem nuR_lt (l : List UInt8) : -30 * (10 ^ l.length - 1 : Int) ≤ nuR l ∧ nuR l ≤ 30 * (10 ^ l.length - 1 : Int) := by
  have := nuR_go l 0
  unfold nuR
  rw [Int.zero_mul] at this
  omega
theorem nuR_dg : ∀ (l : List UInt8) (a : Nat), (∀ c ∈ l, isDi c = true) → l.foldl (fun n c => 10 * n + (c.toNat : Int) - 48) (a : Int) = ((l.foldl (fun a c => a * 10 + (c.toNat - 48)) a : Nat) : Int)
  | [], a, _ => rfl
  | c :: l, a, h => by
    have hc := (isDi_iff c).1 (h c (by simp))
    rw [List.foldl_cons, List.foldl_cons, ← nuR_dg l _ (fun x hx => h x (by simp [hx]))]
    congr 1
    omega
theorem nuR_num {l : List UInt8} (h : ∀ c ∈ l, isDi c = true) : nuR l = (numD l : Int) := nuR_dg l 0 h
def NuI (l : List UInt8) (w wr : World) (n i : Value) : Prop := ∃ k : Nat, k ≤ l.length ∧ i = .int .i64 (k : Int) ∧ n = .int .i64 (nuR (l.take k)) ∧ wr = w
set_option maxHeartbeats 2000000 in
theorem rnumber_any (l : List UInt8) (hl : l.length ≤ 6) (w : World) : Calls Tryz.prog 30 #[.string (bs l)] w fun e w' => e = .returned (.int .i64 (nuR l)) ∧ w' = w := by
  have hsz : (bs l).size = l.length := bs_size l
  go_enter Tryz.func30, Tryz.ntmps30
  go_wp2_with fail
  go_loopw [3, 4] (fun n i wr => NuI l w wr n i) (fun _ i _ => l.length - (intOf i).toNat)
  case atStart => exact ⟨0, by omega, rfl, rfl, rfl⟩
  case round =>
    obtain ⟨k, hk, rfl, rfl, rfl⟩ := hrel
    have hb := nuR_lt (l.take k)
    have hp : (10 : Int) ^ (l.take k).length ≤ 1000000 := by
      rcases (by rw [List.length_take]; omega : (l.take k).length = 0 ∨ (l.take k).length = 1 ∨ (l.take k).length = 2 ∨ (l.take k).length = 3 ∨ (l.take k).length = 4 ∨ (l.take k).length = 5 ∨ (l.take k).length = 6) with h | h | h | h | h | h | h <;> rw [h] <;> decide
    have hb1 : -30000000 ≤ nuR (l.take k) := by omega
    have hb2 : nuR (l.take k) ≤ 30000000 := by omega
    clear hb hp
    by_cases hlt : k < l.length
    · have e1 : decide ((k : Int) < (l.length : Int)) = true := decide_eq_true (by omega)
      obtain ⟨c, hc⟩ : ∃ c, l[k]? = some c := ⟨_, List.getElem?_eq_getElem hlt⟩
      have ci := index_bs l k c hc
      have hcl := c.toNat_lt
      have HN : Hid (nuR (l.take (k + 1)) = 10 * nuR (l.take k) + (c.toNat : Int) - 48) := by show _ = _; rw [List.take_add_one, hc]; exact nuR_snoc _ _
      clear hc
      generalize nuR (l.take k) = N at *
      go_wp2_with fail
      refine ⟨⟨k + 1, by omega, by go_num, by rw [HN.out], (by first | rfl | trivial)⟩, ?_⟩
      simp [intOf]; omega
    · obtain rfl : k = l.length := by omega
      have e1 : decide ((l.length : Int) < (l.length : Int)) = false := by simp
      rw [List.take_length]
      go_wp2_with fail
      go_ret
      exact ⟨rfl, rfl⟩
end Go.Proofs.YtldicibhfmnjnaaGreatDoor

/- Walks of the reference of layer 46: Unpack. -/
set_option linter.unusedVariables false
set_option linter.unusedSimpArgs false
namespace Go.Proofs.YtldicibhfmnjnaaGreatDoor
open Go.RowKit

theorem pack_subs {d : List UInt8} {o s h : Int} {b : Bool} (hg : goodL d o s h = true) : sub (packP d o s h b) 1 3 = digP o 2 ∧ sub (packP d o s h b) 3 5 = digP h 2 ∧ sub (packP d o s h b) 5 11 = digP (s + 1) 6 := by
  obtain ⟨hnm, hl12, hall, hs0, hs1, ho0, ho1, hh0, hh1⟩ := good_facts hg
  obtain ⟨l1, _, v1⟩ := digP_facts (n := o) (m := 2) ho0 (by omega) (by omega) (by omega)
  obtain ⟨l2, _, v2⟩ := digP_facts (n := h) (m := 2) hh0 (by omega) (by omega) (by omega)
  obtain ⟨l3, _, v3⟩ := digP_facts (n := s + 1) (m := 6) (by omega) (by omega) (by omega) (by omega)
  unfold packP
  refine ⟨?_, ?_, ?_⟩
  · rw [show ([if b then 49 else 48] ++ digP o 2 ++ digP h 2 ++ digP (s + 1) 6 ++ d) = [if b then 49 else 48] ++ digP o 2 ++ (digP h 2 ++ digP (s + 1) 6 ++ d) by simp only [List.append_assoc], sub_app (i := 1) (j := 3) rfl l1]
  · rw [show ([if b then 49 else 48] ++ digP o 2 ++ digP h 2 ++ digP (s + 1) 6 ++ d) = ([if b then 49 else 48] ++ digP o 2) ++ digP h 2 ++ (digP (s + 1) 6 ++ d) by simp only [List.append_assoc], sub_app (i := 3) (j := 5) (by simp only [List.length_append, l1, List.length_cons, List.length_nil]) l2]
  · rw [sub_app (i := 5) (j := 11) (by simp only [List.length_append, l1, l2, List.length_cons, List.length_nil]) l3]
theorem nuR_digP {n : Int} {m : Nat} (h0 : 0 ≤ n) (h1 : n < 10 ^ m) (hm : 1 ≤ m) (hm' : m ≤ 6) : nuR (digP n m) = n := by
  obtain ⟨l, d, v⟩ := digP_facts h0 h1 hm hm'
  rw [numV_dg d (fun h => by rw [h] at l; simp at l; omega) (by omega)] at v
  rw [nuR_num d, v]
/-- the reference's fields and the program's give the same -/
theorem un_same (p : List UInt8) : (pkE (p.drop 11) (nuR (sub p 1 3)) (nuR (sub p 5 11) - 1) (nuR (sub p 3 5)) = 0 ∧ pkP (p.drop 11) (nuR (sub p 1 3)) (nuR (sub p 5 11) - 1) (nuR (sub p 3 5)) (uB p) = p) →
    unOk p = true ∧ nuR (sub p 1 3) = numV (sub p 1 3) ∧ nuR (sub p 5 11) = numV (sub p 5 11) ∧ nuR (sub p 3 5) = numV (sub p 3 5) := by
  rintro ⟨h1, h2⟩
  unfold pkE at h1
  unfold pkP at h2
  cases hg : goodL (p.drop 11) (nuR (sub p 1 3)) (nuR (sub p 5 11) - 1) (nuR (sub p 3 5)) with
  | false => rw [hg] at h1; simp at h1
  | true =>
    rw [hg, if_pos rfl] at h2
    obtain ⟨_, g2, g3, g4, g5, g6⟩ := pack_parts (b := uB p) hg
    have hu := un_of_pack (b := uB p) hg
    rw [h2] at g3 g4 g5 hu
    exact ⟨hu, g3.symm, by omega, g4.symm⟩
theorem un_same' (p : List UInt8) (h : unOk p = true) : (pkE (p.drop 11) (nuR (sub p 1 3)) (nuR (sub p 5 11) - 1) (nuR (sub p 3 5)) = 0 ∧ pkP (p.drop 11) (nuR (sub p 1 3)) (nuR (sub p 5 11) - 1) (nuR (sub p 3 5)) (uB p) = p) := by
  obtain ⟨_, g1, g2⟩ := un_facts h
  obtain ⟨e1, e2, e3⟩ := pack_subs (b := uB p) g1
  rw [g2] at e1 e2 e3
  obtain ⟨hnm, hl12, hall, hs0, hs1, ho0, ho1, hh0, hh1⟩ := good_facts g1
  have n1 : nuR (sub p 1 3) = numV (sub p 1 3) := by conv => lhs; rw [e1]
                                                     exact nuR_digP ho0 (by omega) (by omega) (by omega)
  have n2 : nuR (sub p 3 5) = numV (sub p 3 5) := by conv => lhs; rw [e2]
                                                     exact nuR_digP hh0 (by omega) (by omega) (by omega)
  have n3 : nuR (sub p 5 11) = numV (sub p 5 11) := by conv => lhs; rw [e3]
                                                       rw [nuR_digP (by omega) (by omega) (by omega) (by omega)]; omega
  rw [n1, n2, n3]
  unfold pkE pkP
  rw [g1, if_pos rfl, if_pos rfl]
  exact ⟨rfl, g2⟩
set_option maxRecDepth 100000 in
set_option maxHeartbeats 8000000 in
theorem rUnpack_out (p : List UInt8) (h12 : p.length < 12 ∨ 34 < p.length) (w : World) : Calls Tryz.prog 15 #[.string (bs p)] w fun e w' => e = .returned (.tuple #[lval [] 0 0 0 false, .int .i64 5]) ∧ Below w.heap.size w w' := by
  have hsz : (bs p).size = p.length := bs_size p
  have HB := hide (below_one w (.cells #[.string ⟨#[]⟩, .int .i64 0, .int .i64 0, .int .i64 0, .bool false] 23))
  have HR := hide (Blk.new w 23 #[.string ⟨#[]⟩, .int .i64 0, .int .i64 0, .int .i64 0, .bool false])
  generalize bs p = X at *
  rcases h12 with h | h
  · have e1 : decide ((p.length : Int) < 12) = true := decide_eq_true (by omega)
    go_enter Tryz.func15, Tryz.ntmps15
    go_wp2_with fail
    refine bodyPost_ret (results_c1 (p := 2) (u := 3) rfl _ _ w.heap.size 23 _ _ rfl HR.out Tryz.underlying23 rfl (by kernel_rfl)) rfl ⟨rfl, ?_⟩
    exact HB.out
  · have e1 : decide ((p.length : Int) < 12) = false := decide_eq_false (by omega)
    have e2 : decide ((34 : Int) < (p.length : Int)) = true := decide_eq_true (by omega)
    go_enter Tryz.func15, Tryz.ntmps15
    go_wp2_with fail
    refine bodyPost_ret (results_c1 (p := 2) (u := 3) rfl _ _ w.heap.size 23 _ _ rfl HR.out Tryz.underlying23 rfl (by kernel_rfl)) rfl ⟨rfl, ?_⟩
    exact HB.out
set_option maxRecDepth 100000 in
set_option maxHeartbeats 8000000 in
theorem rUnpack_in (p d : List UInt8) (hd : p.drop 11 = d) (h12 : 12 ≤ p.length) (h34 : p.length ≤ 34) (o s h : Int) (hb : Bool) (S : List UInt8) (E : Int) (ho : nuR (sub p 1 3) = o) (hs : nuR (sub p 5 11) = s + 1) (hh : nuR (sub p 3 5) = h) (hB : uB p = hb)
    (hS : pkP d o s h hb = S) (hE : pkE d o s h = E) (good : Bool) (hgood : good = decide (E = 0 ∧ S = p)) (w : World) :
    Calls Tryz.prog 15 #[.string (bs p)] w fun e w' => e = .returned (.tuple #[if good then lval d o s h hb else lval [] 0 0 0 false, .int .i64 (if good then 0 else 5)]) ∧ Below w.heap.size w w' := by
  have CP := fun w => rPack_any d (by rw [← hd]; simp; omega) o s h hb w
  rw [hS, hE] at CP
  unfold lval at CP
  have hsz : (bs p).size = p.length := bs_size p
  have e1 : decide ((p.length : Int) < 12) = false := decide_eq_false (by omega)
  have e2 : decide ((34 : Int) < (p.length : Int)) = false := decide_eq_false (by omega)
  have h11 : (11 : Int) ≤ (p.length : Int) := by omega
  have h3 : (3 : Int) ≤ (p.length : Int) := by omega
  have h5 : (5 : Int) ≤ (p.length : Int) := by omega
  have hx : (bs p).extract 11 p.length = bs d := by rw [bs_from, hd]
  have hx1 : (bs p).extract 1 3 = bs (sub p 1 3) := bs_cut p 1 3
  have hx2 : (bs p).extract 3 5 = bs (sub p 3 5) := bs_cut p 3 5
  have hx3 : (bs p).extract 5 11 = bs (sub p 5 11) := bs_cut p 5 11
  obtain ⟨c, hc⟩ : ∃ c, p[0]? = some c := ⟨_, List.getElem?_eq_getElem (by omega)⟩
  have hi0 : ∀ w, (Instr.index 9 (.string (bs p)) (.int .i64 0)).run Tryz.prog w = .ok (.int .u8 (c.toNat : Int)) w := index_bs p 0 c hc
  have e49 : ((c.toNat : Int) == 49) = hb := by rw [← hB]; unfold uB; rw [hc]
  have hsl : ∀ i j, j - i ≤ 6 → (sub p i j).length ≤ 6 := fun i j hij => by unfold sub; rw [List.length_take]; omega
  have hbnd := nuR_lt (sub p 5 11)
  have hP : (10 : Int) ^ (sub p 5 11).length ≤ 1000000 := by
    have := hsl 5 11 (by omega)
    rcases (by omega : (sub p 5 11).length = 0 ∨ (sub p 5 11).length = 1 ∨ (sub p 5 11).length = 2 ∨ (sub p 5 11).length = 3 ∨ (sub p 5 11).length = 4 ∨ (sub p 5 11).length = 5 ∨ (sub p 5 11).length = 6) with h | h | h | h | h | h | h <;> rw [h] <;> decide
  rw [hs] at hbnd
  have hws := w64 (x := s) (by omega) (by omega)
  have hws' : IntKind.i64.wrap (s + 1 - 1) = s := by rw [show s + 1 - 1 = s by omega]; exact hws
  have CN : ∀ i j, j - i ≤ 6 → ∀ w, Calls Tryz.prog 30 #[.string (bs (sub p i j))] w fun e w' => e = .returned (.int .i64 (nuR (sub p i j))) ∧ Below w.heap.size w w' := fun i j hij w => (rnumber_any (sub p i j) (hsl i j hij) w).mono fun e w' ⟨he, hw⟩ => ⟨he, hw ▸ Below.refl _ _⟩
  have N1 := CN 1 3 (by omega)
  have N2 := CN 3 5 (by omega)
  have N3 := CN 5 11 (by omega)
  rw [ho] at N1
  rw [hh] at N2
  rw [hs] at N3
  have HSP : Hid (((bs S).toList == (bs p).toList) = decide (S = p)) := by show _ = _; rw [bs_toList, bs_toList]; by_cases h : S = p <;> simp [h]
  clear hd hc hB hS hE ho hs hh hbnd hP hsl CN
  generalize bs (sub p 1 3) = S1 at *
  generalize bs (sub p 3 5) = S2 at *
  generalize bs (sub p 5 11) = S3 at *
  generalize bs S = Z at *
  generalize hX : bs p = X at *
  clear hX
  have HB := hide (below_one w (.cells #[.string ⟨#[]⟩, .int .i64 0, .int .i64 0, .int .i64 0, .bool false] 23))
  have HR := hide (Blk.new w 23 #[.string ⟨#[]⟩, .int .i64 0, .int .i64 0, .int .i64 0, .bool false])
  go_enter Tryz.func15, Tryz.ntmps15
  go_wp2_with fail
  generalize w.alloc (.cells #[.string ⟨#[]⟩, .int .i64 0, .int .i64 0, .int .i64 0, .bool false] 23) = w1 at *
  obtain ⟨br, hbr⟩ : ∃ b, Hid (w.heap.size = b) := ⟨_, rfl⟩
  rw [hbr.out] at HR ⊢
  obtain ⟨U, hU, g, u0, rfl, hgu, hi'⟩ := cls w1
  apply wp_region_looseG g (V := [some _, some _, some _, some _, some _, some _, some _, some _, some _, some _, some _, some _, some _, some _, some _, some _, none, none]) (Fs := [(16, Box5 (g u0).heap.size 23 4), (17, BoxIs (g u0).heap.size 23 4 #[.string (bs d), .int .i64 o, .int .i64 s, .int .i64 h, .bool hb])]) (Rel := fun i w w' => if i = 17 then BoxRel (g u0).heap.size 23 w w' else Below w.heap.size w w')
  case hm => kernel_rfl
  case hB => kernel_rfl
  case hCw => exact hi' _ (Below.refl _ _).drew
  case hC =>
    rintro i uq w' hr
    by_cases hi17 : i = 17
    · exact hi' _ ((hgu uq).trans (by simpa [hi17] using hr : BoxRel (g u0).heap.size 23 _ _).1)
    exact hi' _ (below_to (hgu uq) (Nat.le_refl _) (by simpa [hi17] using hr))
  case hst =>
    refine keeps_cons (fun i a a' w w' hne hwt hs hr h => h.keep (hs 4 (by kernel_rfl)) (by by_cases e17 : i = 17; (left; simpa [e17] using hr); right; simpa [e17] using hr)) ?_
    refine keeps_cons (fun i a a' w w' hne hwt hs hr h => h.keep (hs 4 (by kernel_rfl)) (by simpa [hne] using hr)) ?_
    exact keeps_nil
  case hop =>
    refine ⟨?_, ?_, ?_, ?_, ?_, ?_, ?_, ?_, ?_, ?_, ?_, ?_, ?_, ?_, ?_, ?_, ?_, ?_, trivial⟩
    · intro a uq K hS hd hK
      have s0 := hS.at 0 (by kernel_rfl) rfl
      rw [if_pos (want_free rfl)]
      go_simp
      exact hK _ _ (Below.refl _ _) (vok rfl) (facts_cons (fun h => absurd h (by decide)) (facts_cons (fun h => absurd h (by decide)) facts_nil))
    · intro a uq K hS hd hK
      have s16 := (waits_on hd 0 (by kernel_rfl)).at (d := 16) rfl rfl rfl
      rw [if_pos (want_free rfl)]
      go_simp
      exact hK _ _ (Below.refl _ _) (vok rfl) (facts_cons (fun h => absurd h (by decide)) (facts_cons (fun h => absurd h (by decide)) facts_nil))
    · intro a uq K hS hd hK
      have s0 := hS.at 0 (by kernel_rfl) rfl
      rw [if_pos (want_free rfl)]
      go_simp
      exact hK _ _ (Below.refl _ _) (vok rfl) (facts_cons (fun h => absurd h (by decide)) (facts_cons (fun h => absurd h (by decide)) facts_nil))
    · intro a uq K hS hd hK
      have s18 := (waits_on hd 2 (by kernel_rfl)).at (d := 18) rfl rfl rfl
      rw [if_pos (want_free rfl)]
      go_simp
      exact hK _ _ (Below.refl _ _) (vok rfl) (facts_cons (fun h => absurd h (by decide)) (facts_cons (fun h => absurd h (by decide)) facts_nil))
    · intro a uq K hS hd hK
      have s19 := (waits_on hd 3 (by kernel_rfl)).at (d := 19) rfl rfl rfl
      rw [if_pos (want_free rfl)]
      go_simp
      with_reducible refine (N1 (g uq)).mono ?_
      rintro e w' ⟨rfl, hb⟩
      exact hK _ _ hb (vok rfl) (facts_cons (fun h => absurd h (by decide)) (facts_cons (fun h => absurd h (by decide)) facts_nil))
    · intro a uq K hS hd hK
      have s0 := hS.at 0 (by kernel_rfl) rfl
      rw [if_pos (want_free rfl)]
      go_simp
      exact hK _ _ (Below.refl _ _) (vok rfl) (facts_cons (fun h => absurd h (by decide)) (facts_cons (fun h => absurd h (by decide)) facts_nil))
    · intro a uq K hS hd hK
      have s21 := (waits_on hd 5 (by kernel_rfl)).at (d := 21) rfl rfl rfl
      rw [if_pos (want_free rfl)]
      go_simp
      exact hK _ _ (Below.refl _ _) (vok rfl) (facts_cons (fun h => absurd h (by decide)) (facts_cons (fun h => absurd h (by decide)) facts_nil))
    · intro a uq K hS hd hK
      have s22 := (waits_on hd 6 (by kernel_rfl)).at (d := 22) rfl rfl rfl
      rw [if_pos (want_free rfl)]
      go_simp
      with_reducible refine (N2 (g uq)).mono ?_
      rintro e w' ⟨rfl, hb⟩
      exact hK _ _ hb (vok rfl) (facts_cons (fun h => absurd h (by decide)) (facts_cons (fun h => absurd h (by decide)) facts_nil))
    · intro a uq K hS hd hK
      have s0 := hS.at 0 (by kernel_rfl) rfl
      rw [if_pos (want_free rfl)]
      go_simp
      exact hK _ _ (Below.refl _ _) (vok rfl) (facts_cons (fun h => absurd h (by decide)) (facts_cons (fun h => absurd h (by decide)) facts_nil))
    · intro a uq K hS hd hK
      have s24 := (waits_on hd 8 (by kernel_rfl)).at (d := 24) rfl rfl rfl
      rw [if_pos (want_free rfl)]
      go_simp
      exact hK _ _ (Below.refl _ _) (vok rfl) (facts_cons (fun h => absurd h (by decide)) (facts_cons (fun h => absurd h (by decide)) facts_nil))
    · intro a uq K hS hd hK
      have s25 := (waits_on hd 9 (by kernel_rfl)).at (d := 25) rfl rfl rfl
      rw [if_pos (want_free rfl)]
      go_simp
      with_reducible refine (N3 (g uq)).mono ?_
      rintro e w' ⟨rfl, hb⟩
      exact hK _ _ hb (vok rfl) (facts_cons (fun h => absurd h (by decide)) (facts_cons (fun h => absurd h (by decide)) facts_nil))
    · intro a uq K hS hd hK
      have s26 := (waits_on hd 10 (by kernel_rfl)).at (d := 26) rfl rfl rfl
      rw [if_pos (want_free rfl)]
      go_simp
      exact hK _ _ (Below.refl _ _) (vok rfl) (facts_cons (fun h => absurd h (by decide)) (facts_cons (fun h => absurd h (by decide)) facts_nil))
    · intro a uq K hS hd hK
      have s0 := hS.at 0 (by kernel_rfl) rfl
      rw [if_pos (want_free rfl)]
      go_simp
      exact hK _ _ (Below.refl _ _) (vok rfl) (facts_cons (fun h => absurd h (by decide)) (facts_cons (fun h => absurd h (by decide)) facts_nil))
    · intro a uq K hS hd hK
      have s28 := (waits_on hd 12 (by kernel_rfl)).at (d := 28) rfl rfl rfl
      rw [if_pos (want_free rfl)]
      go_simp
      exact hK _ _ (Below.refl _ _) (vok rfl) (facts_cons (fun h => absurd h (by decide)) (facts_cons (fun h => absurd h (by decide)) facts_nil))
    · intro a uq K hS hd hK
      have s29 := (waits_on hd 13 (by kernel_rfl)).at (d := 29) rfl rfl rfl
      rw [if_pos (want_free rfl)]
      go_simp
      exact hK _ _ (Below.refl _ _) (vok rfl) (facts_cons (fun h => absurd h (by decide)) (facts_cons (fun h => absurd h (by decide)) facts_nil))
    · intro a uq K hS hd hK
      have s17 := (waits_on hd 1 (by kernel_rfl)).at (d := 17) rfl rfl rfl
      have s20 := (waits_on hd 4 (by kernel_rfl)).at (d := 20) rfl rfl rfl
      have s23 := (waits_on hd 7 (by kernel_rfl)).at (d := 23) rfl rfl rfl
      have s27 := (waits_on hd 11 (by kernel_rfl)).at (d := 27) rfl rfl rfl
      have s30 := (waits_on hd 14 (by kernel_rfl)).at (d := 30) rfl rfl rfl
      rw [if_pos (want_free rfl)]
      refine wp_built 23 _ #[.string (bs d), .int .i64 o, .int .i64 s, .int .i64 h, .bool hb] rfl ?_ (hK _ _ (Below.refl _ _) (vok rfl) (facts_cons (fun h => absurd h (by decide)) (facts_cons (fun h => absurd h (by decide)) facts_nil)))
      simp only [List.map_toArray, List.map_cons, List.map_nil]
      rw [evt s17, evt s20, evt s23, evt s27, evt s30]
      kernel_rfl
    · intro a uq K hS hd hK
      rw [if_pos (want_free rfl)]
      go_simp
      exact hK _ _ (below_one _ _) (vfree rfl) (facts_cons (fun _ => ⟨_, _, _, _, _, _, hS.put_at (by kernel_rfl) _, Nat.le_trans (Below.size (hgu uq)) (Nat.le_refl _), Blk.new _ _ _⟩) (facts_cons (fun h => absurd h (by decide)) facts_nil))
    · intro a uq K hS hd hK
      obtain ⟨b4, x4_0, x4_1, x4_2, x4_3, x4_4, s4, l4, r4⟩ := (waits_on hd 16 (by kernel_rfl)).2 _ (List.mem_cons_self ..) rfl
      have s31 := (waits_on hd 15 (by kernel_rfl)).at (d := 31) rfl rfl rfl
      rw [if_pos (want_free rfl)]
      have c0 := r4.cell 0
      have f0 := r4.frozen 0
      have c1 := r4.cell 1
      have f1 := r4.frozen 1
      have c2 := r4.cell 2
      have f2 := r4.frozen 2
      have c3 := r4.cell 3
      have f3 := r4.frozen 3
      have c4 := r4.cell 4
      have f4 := r4.frozen 4
      go_simp
      exact hK undef _ ((((((BoxRel.refl _ _ _).set_ r4 l4 0 _).set_ (r4.set_ 0 (.string (bs d))) l4 1 _).set_ ((r4.set_ 0 (.string (bs d))).set_ 1 (.int .i64 o)) l4 2 _).set_ (((r4.set_ 0 (.string (bs d))).set_ 1 (.int .i64 o)).set_ 2 (.int .i64 s)) l4 3 _).set_ ((((r4.set_ 0 (.string (bs d))).set_ 1 (.int .i64 o)).set_ 2 (.int .i64 s)).set_ 3 (.int .i64 h)) l4 4 _) (vfree rfl) (facts_cons (fun h => absurd h (by decide)) (facts_cons (fun _ => ⟨b4, s4, l4, (((((r4.set_ 0 (.string (bs d))).set_ 1 (.int .i64 o)).set_ 2 (.int .i64 s)).set_ 3 (.int .i64 h)).set_ 4 (.bool hb))⟩) facts_nil))
  case hfin =>
    intro a uq hS hk
    have s16 := (hk 0 (by decide)).at (d := 16) rfl rfl rfl
    have s17 := (hk 1 (by decide)).at (d := 17) rfl rfl rfl
    have s18 := (hk 2 (by decide)).at (d := 18) rfl rfl rfl
    have s19 := (hk 3 (by decide)).at (d := 19) rfl rfl rfl
    have s20 := (hk 4 (by decide)).at (d := 20) rfl rfl rfl
    have s21 := (hk 5 (by decide)).at (d := 21) rfl rfl rfl
    have s22 := (hk 6 (by decide)).at (d := 22) rfl rfl rfl
    have s23 := (hk 7 (by decide)).at (d := 23) rfl rfl rfl
    have s24 := (hk 8 (by decide)).at (d := 24) rfl rfl rfl
    have s25 := (hk 9 (by decide)).at (d := 25) rfl rfl rfl
    have s26 := (hk 10 (by decide)).at (d := 26) rfl rfl rfl
    have s27 := (hk 11 (by decide)).at (d := 27) rfl rfl rfl
    have s28 := (hk 12 (by decide)).at (d := 28) rfl rfl rfl
    have s29 := (hk 13 (by decide)).at (d := 29) rfl rfl rfl
    have s30 := (hk 14 (by decide)).at (d := 30) rfl rfl rfl
    have s31 := (hk 15 (by decide)).at (d := 31) rfl rfl rfl
    obtain ⟨b4, s4, l4, r4⟩ := (hk 17 (by decide)).2 _ (List.mem_cons_of_mem _ (List.mem_cons_self ..)) rfl
    have hlit := hS.lit _ (by kernel_rfl) (lits_cons s16 (lits_cons s17 (lits_cons s18 (lits_cons s19 (lits_cons s20 (lits_cons s21 (lits_cons s22 (lits_cons s23 (lits_cons s24 (lits_cons s25 (lits_cons s26 (lits_cons s27 (lits_cons s28 (lits_cons s29 (lits_cons s30 (lits_cons s31 (lits_cons s4 lits_nil)))))))))))))))))
    rw [hlit]
    clear hlit hk hS s16 s17 s18 s19 s20 s21 s22 s23 s24 s25 s26 s27 s28 s29 s30 s31 s4
    simp only [litT, List.setIfInBounds_toArray, List.set_cons_succ, List.set_cons_zero]
    have HB2 := hide (below_to HB.out (Nat.le_refl _) (hgu uq))
    have HR2 := hide (HR.out.to (hgu uq))
    have HL2 := hide r4
    clear r4 HB HR N1 N2 N3 hi0
    generalize g uq = w2 at *
    clear hgu hi' l4
    obtain ⟨U2, hU2, g2, u2, rfl, hgu2, hi2⟩ := cls w2
    have y0 := blk_all hgu2 HL2.out 0 rfl
    have y1 := blk_all hgu2 HL2.out 1 rfl
    have y2 := blk_all hgu2 HL2.out 2 rfl
    have y3 := blk_all hgu2 HL2.out 3 rfl
    have y4 := blk_all hgu2 HL2.out 4 rfl
    have r0 := blk_all hgu2 HR2.out 0 rfl
    have r1 := blk_all hgu2 HR2.out 1 rfl
    have r2 := blk_all hgu2 HR2.out 2 rfl
    have r3 := blk_all hgu2 HR2.out 3 rfl
    have r4 := blk_all hgu2 HR2.out 4 rfl
    have rf : ∀ u i, (g2 u).frozen? ⟨br, i, none⟩ = false := fun u i => (HR2.out.to (hgu2 u)).frozen i
    have C2 := cls_call hgu2 hi2 (fun w hb => CP w)
    have HGU := hide hgu2
    clear hgu2 hi2 CP
    by_cases hE0 : E = 0
    · subst hE0
      by_cases hSp : S = p
      · obtain rfl : good = true := by rw [hgood]; simp [hSp]
        have eS : (Z.toList == X.toList) = true := by rw [HSP.out]; simp [hSp]
        clear hgood hSp HSP
        go_wp2_with ((with_reducible refine (C2 _).mono ?_); rintro e w' ⟨rfl, u, rfl⟩)
        have hbk := ((((((HR2.out.to (HGU.out u)).set_ 0 (.string (bs d))).set_ 1 (.int .i64 o)).set_ 2 (.int .i64 s)).set_ 3 (.int .i64 h)).set_ 4 (.bool hb))
        have hle : w.heap.size ≤ br := by have := hbr.out; omega
        refine bodyPost_ret (results_c1 (p := 2) (u := 3) rfl _ _ br 23 _ _ rfl hbk Tryz.underlying23 rfl (by kernel_rfl)) rfl ⟨rfl, ?_⟩
        first | exact ((((((below_to HB2.out (Nat.le_refl _) (HGU.out u)).setCell (p := ⟨br, 0, none⟩) hle _).setCell (p := ⟨br, 1, none⟩) hle _).setCell (p := ⟨br, 2, none⟩) hle _).setCell (p := ⟨br, 3, none⟩) hle _).setCell (p := ⟨br, 4, none⟩) hle _) | (rw [hbr.out] at HB2 hle; exact ((((((below_to HB2.out (Nat.le_refl _) (HGU.out u)).setCell (p := ⟨br, 0, none⟩) hle _).setCell (p := ⟨br, 1, none⟩) hle _).setCell (p := ⟨br, 2, none⟩) hle _).setCell (p := ⟨br, 3, none⟩) hle _).setCell (p := ⟨br, 4, none⟩) hle _))
      · obtain rfl : good = false := by rw [hgood]; simp [hSp]
        have eS : (Z.toList == X.toList) = false := by rw [HSP.out]; simp [hSp]
        clear hgood hSp HSP
        go_wp2_with ((with_reducible refine (C2 _).mono ?_); rintro e w' ⟨rfl, u, rfl⟩)
        have hbk := ((((((HR2.out.to (HGU.out u)).set_ 0 (.string ⟨#[]⟩)).set_ 1 (.int .i64 0)).set_ 2 (.int .i64 0)).set_ 3 (.int .i64 0)).set_ 4 (.bool false))
        have hle : w.heap.size ≤ br := by have := hbr.out; omega
        refine bodyPost_ret (results_c1 (p := 2) (u := 3) rfl _ _ br 23 _ _ rfl hbk Tryz.underlying23 rfl (by kernel_rfl)) rfl ⟨rfl, ?_⟩
        first | exact ((((((below_to HB2.out (Nat.le_refl _) (HGU.out u)).setCell (p := ⟨br, 0, none⟩) hle _).setCell (p := ⟨br, 1, none⟩) hle _).setCell (p := ⟨br, 2, none⟩) hle _).setCell (p := ⟨br, 3, none⟩) hle _).setCell (p := ⟨br, 4, none⟩) hle _) | (rw [hbr.out] at HB2 hle; exact ((((((below_to HB2.out (Nat.le_refl _) (HGU.out u)).setCell (p := ⟨br, 0, none⟩) hle _).setCell (p := ⟨br, 1, none⟩) hle _).setCell (p := ⟨br, 2, none⟩) hle _).setCell (p := ⟨br, 3, none⟩) hle _).setCell (p := ⟨br, 4, none⟩) hle _))
    · obtain rfl : good = false := by rw [hgood]; simp [hE0]
      have eE : (E != 0) = true := by rw [bne_iff_ne]; exact hE0
      clear hgood hE0 HSP
      go_wp2_with ((with_reducible refine (C2 _).mono ?_); rintro e w' ⟨rfl, u, rfl⟩)
      have hbk := ((((((HR2.out.to (HGU.out u)).set_ 0 (.string ⟨#[]⟩)).set_ 1 (.int .i64 0)).set_ 2 (.int .i64 0)).set_ 3 (.int .i64 0)).set_ 4 (.bool false))
      have hle : w.heap.size ≤ br := by have := hbr.out; omega
      refine bodyPost_ret (results_c1 (p := 2) (u := 3) rfl _ _ br 23 _ _ rfl hbk Tryz.underlying23 rfl (by kernel_rfl)) rfl ⟨rfl, ?_⟩
      first | exact ((((((below_to HB2.out (Nat.le_refl _) (HGU.out u)).setCell (p := ⟨br, 0, none⟩) hle _).setCell (p := ⟨br, 1, none⟩) hle _).setCell (p := ⟨br, 2, none⟩) hle _).setCell (p := ⟨br, 3, none⟩) hle _).setCell (p := ⟨br, 4, none⟩) hle _) | (rw [hbr.out] at HB2 hle; exact ((((((below_to HB2.out (Nat.le_refl _) (HGU.out u)).setCell (p := ⟨br, 0, none⟩) hle _).setCell (p := ⟨br, 1, none⟩) hle _).setCell (p := ⟨br, 2, none⟩) hle _).setCell (p := ⟨br, 3, none⟩) hle _).setCell (p := ⟨br, 4, none⟩) hle _))
theorem rUnpack_any (p : List UInt8) (w : World) : Calls Tryz.prog 15 #[.string (bs p)] w fun e w' => e = .returned (.tuple #[unV p, .int .i64 (unE p)]) ∧ Below w.heap.size w w' := by
  by_cases hin : 12 ≤ p.length ∧ p.length ≤ 34
  · obtain ⟨h1, h2⟩ := hin
    have h := rUnpack_in p _ rfl h1 h2 _ (nuR (sub p 5 11) - 1) _ _ _ _ rfl (by omega) rfl rfl rfl rfl (unOk p) (by
      rw [Bool.eq_iff_iff, decide_eq_true_iff]
      exact ⟨un_same' p, fun h => (un_same p h).1⟩) w
    cases hu : unOk p with
    | true =>
      rw [hu] at h
      obtain ⟨_, n1, n2, n3⟩ := un_same p (un_same' p hu)
      rw [n1, n2, n3] at h
      unfold unV unE
      rw [hu]
      exact h
    | false =>
      rw [hu] at h
      unfold unV unE
      rw [hu]
      exact h
  · have hn : unOk p = false := by
      cases hu : unOk p with
      | false => rfl
      | true =>
        exfalso
        obtain ⟨g0, g1, g2⟩ := un_facts hu
        have := (pack_parts (b := uB p) g1).1
        rw [g2] at this
        have h12 := (good_facts g1).2.1
        exact hin ⟨g0, by omega⟩
    unfold unV unE
    rw [hn]
    exact rUnpack_out p (by omega) w
end Go.Proofs.YtldicibhfmnjnaaGreatDoor

/- Walks of the reference of layer 46: Write. -/
set_option linter.unusedVariables false
set_option linter.unusedSimpArgs false
namespace Go.Proofs.YtldicibhfmnjnaaGreatDoor
open Go.RowKit

theorem prR_word {t : List UInt8} (hs : ∀ c ∈ t, isSym c = true) : prR t = true ↔ 3 ≤ t.length ∧ t.length ≤ 36 ∧ isWord (vals t) := by
  unfold prR isWord
  simp only [Bool.and_eq_true, decide_eq_true_eq]
  have := vals_range hs
  constructor
  · rintro ⟨⟨⟨h1, h2⟩, h3⟩, h4⟩; exact ⟨h1, h2, this, h3, h4⟩
  · rintro ⟨h1, h2, _, h3, h4⟩; exact ⟨⟨⟨h1, h2⟩, h3⟩, h4⟩
theorem prR_prt {p : List UInt8} (h : canW p = true) : prR (prt p) = true := by
  have hp := ((canW_iff p).1 h).2
  exact (prR_word (prt_sym h)).2 ⟨by rw [prt_len]; omega, by rw [prt_len]; omega, prt_word h⟩
theorem prR_only {p : List UInt8} (h : canW p = true) {x y : UInt8} (hx : isSym x = true) (hy : isSym y = true) (hr : prR (p ++ [x] ++ [y]) = true) : p ++ [x] ++ [y] = prt p := by
  have hp := (canW_iff p).1 h
  have hs : ∀ c ∈ p ++ [x] ++ [y], isSym c = true := fun c hc => by
    simp only [List.mem_append, List.mem_cons, List.not_mem_nil, or_false] at hc
    rcases hc with (hc | hc) | hc
    · exact hp.1 c hc
    · rw [hc]; exact hx
    · rw [hc]; exact hy
  have hw := ((prR_word hs).1 hr).2.2
  have hlen : (p ++ [x] ++ [y]).length = (prt p).length := by rw [prt_len]; simp
  refine vals_inj hs (prt_sym h) (agree_eq hw (prt_word h) (by simp only [vals, List.length_map]; exact hlen) (by simp only [vals, List.length_map, prt_len]; omega) p.length (p.length + 1) (fun k h1 h2 => ?_))
  rw [vals_at, vals_at]
  congr 1
  rcases Nat.lt_or_ge k p.length with hlt | hge
  · unfold prt
    rw [List.append_assoc, List.getElem?_append_left hlt, List.getElem?_append_left hlt]
  · rw [List.getElem?_eq_none (by rw [hlen, prt_len]; omega), List.getElem?_eq_none (by rw [prt_len]; omega)]
theorem chk_syms {p : List UInt8} (h : canW p = true) : ∃ a b, a < 37 ∧ b < 37 ∧ prt p = p ++ [symT.getD a 0] ++ [symT.getD b 0] := by
  have hA := solA_range (oneP (vals p)) (twoP (vals p)) p.length (p.length + 1)
  have hB := solB_range (oneP (vals p)) (twoP (vals p)) p.length (p.length + 1)
  refine ⟨(solA (oneP (vals p)) (twoP (vals p)) p.length (p.length + 1)).toNat, (solB (oneP (vals p)) (twoP (vals p)) p.length (p.length + 1)).toNat, by omega, by omega, ?_⟩
  unfold prt chk symC
  simp
theorem sy_sym : ∀ k, k < 37 → isSym (symT.getD k 0) = true := by decide +kernel
theorem sy_cut : ∀ k, k < 37 → (symT.drop k).take (k + 1 - k) = [symT.getD k 0] := by decide +kernel
theorem sy_ext (k : Nat) (h : k < 37) : (⟨#[48, 49, 50, 51, 52, 53, 54, 55, 56, 57, 97, 98, 99, 100, 101, 102, 103, 104, 105, 106, 107, 108, 109, 110, 111, 112, 113, 114, 115, 116, 117, 118, 119, 120, 121, 122, 45]⟩ : ByteArray).extract k (k + 1) = bs [symT.getD k 0] := by
  have := bs_cut symT k (k + 1)
  rw [sy_cut k h] at this
  exact this
def WrA (p : List UInt8) (a : Nat) : Prop := ∀ a' b, a' < a → b < 37 → prR (p ++ [symT.getD a' 0] ++ [symT.getD b 0]) = false
set_option maxRecDepth 100000 in
set_option maxHeartbeats 4000000 in
theorem rWrite_any (p : List UInt8) (hp : p.length ≤ 1099511627776) (w : World) : Calls Tryz.prog 17 #[.string (bs p)] w fun e w' => e = .returned (.tuple #[.string (bs (writeP p)), .int .i64 (writeE p)]) ∧ Below w.heap.size w w' := by
  have CP := fun w => rPayload_any p hp w
  have hsz : (bs p).size = p.length := bs_size p
  cases hcan : canW p with
  | false =>
    have HW := hide (write_no hcan)
    rw [hcan] at CP
    clear hcan
    go_enter Tryz.func17, Tryz.ntmps17
    go_wp2_with ((with_reducible refine (CP _).mono ?_); rintro e w' ⟨rfl, hw⟩; rw [hw])
    go_ret2
    exact ⟨by rw [HW.out.1, HW.out.2]; rfl, Below.refl _ _⟩
  | true =>
    have HW := hide (write_ok hcan)
    have HCAN := hide hcan
    have h34 := ((canW_iff p).1 hcan).2
    rw [hcan] at CP
    clear hcan
    have CR : ∀ x y w, Calls Tryz.prog 37 #[.string (bs p ++ bs [x] ++ bs [y])] w fun e w' => e = .returned (.bool (prR (p ++ [x] ++ [y]))) ∧ w' = w := fun x y w => by
      rw [bs_app, bs_app]
      exact rPrinted_any _ (by simp; omega) w
    obtain ⟨U, hU, g, u0, rfl, hgu, hi⟩ := cls w
    have HGU := hide hgu
    have HHI := hide hi
    clear hgu hi
    go_enter Tryz.func17, Tryz.ntmps17
    go_wp2_with ((with_reducible refine (CP _).mono ?_); rintro e w' ⟨rfl, hw⟩; rw [hw])
    clear CP
    go_loopw [4, 5, 6] (fun a _ _ wr => ∃ k : Nat, a = .int .i64 (k : Int) ∧ (k ≤ 37 ∧ WrA p k) ∧ ∃ u, wr = g u) (fun a _ _ _ => 37 - (intOf a).toNat)
    case atStart => exact ⟨0, rfl, ⟨by omega, fun a' b h => absurd h (by omega)⟩, u0, by first | rfl | assumption⟩
    case round =>
      obtain ⟨a, rfl, ⟨ha, hno⟩, u1, rfl⟩ := hrel
      have HNO := hide hno
      clear hno
      by_cases hlt : a < 37
      · have e1 : decide ((a : Int) < 37) = true := decide_eq_true (by omega)
        have hxa := sy_ext a hlt
        have hsa := hide (sy_sym a hlt)
        have HFA : Hid (∀ b, b < 37 → prR (p ++ [symT.getD a 0] ++ [symT.getD b 0]) = true → p ++ [symT.getD a 0] ++ [symT.getD b 0] = prt p) := fun b hb hr => prR_only HCAN.out hsa.out (sy_sym b hb) hr
        obtain ⟨x, hx⟩ : ∃ x, Hid (symT.getD a 0 = x) := ⟨_, rfl⟩
        rw [hx.out] at hxa HFA
        have hzx : (bs [x]).size = 1 := rfl
        go_wp2_with fail
        go_loopw [5, 6] (fun b _ wr => ∃ k : Nat, b = .int .i64 (k : Int) ∧ (k ≤ 37 ∧ ∀ b', b' < k → prR (p ++ [x] ++ [symT.getD b' 0]) = false) ∧ ∃ u, wr = g u) (fun b _ _ => 37 - (intOf b).toNat)
        case atStart => exact ⟨0, rfl, ⟨by omega, fun b' h => absurd h (by omega)⟩, _, rfl⟩
        case round =>
          obtain ⟨b, rfl, ⟨hb, hnb⟩, u2, rfl⟩ := hrel
          have HNB := hide hnb
          clear hnb
          by_cases hbl : b < 37
          · have e2 : decide ((b : Int) < 37) = true := decide_eq_true (by omega)
            have hxb := sy_ext b hbl
            have HF := hide (HFA.out b hbl)
            obtain ⟨y, hy⟩ : ∃ y, Hid (symT.getD b 0 = y) := ⟨_, rfl⟩
            rw [hy.out] at hxb HF
            have hzy : (bs [y]).size = 1 := rfl
            have CR' := CR x y
            have CRg : ∀ u, Calls Tryz.prog 37 #[.string (bs p ++ bs [x] ++ bs [y])] (g u) fun e w' => e = .returned (.bool (prR (p ++ [x] ++ [y]))) ∧ ∃ u', w' = g u' := fun u => (CR' (g u)).mono fun e w' ⟨he, hw⟩ => ⟨he, u, hw⟩
            clear CR'
            go_wp2_with fail
            refine wp_region_class g (by kernel_rfl) (by kernel_rfl) (HHI.out _ (HGU.out _).drew) ?_
            repeat (go_big_quiet_step (fail))
            refine wpQuiet_nil ?_
            intro w5 hw5
            obtain ⟨u, rfl⟩ := hw5
            cases hpr : prR (p ++ [x] ++ [y]) with
            | true =>
              rw [hpr] at CRg
              have HEQ := hide (HF.out hpr)
              clear hpr
              go_wp2_with ((with_reducible refine (CRg _).mono ?_); rintro e w' ⟨rfl, u, rfl⟩)
              go_ret2
              exact ⟨by rw [HW.out.1, HW.out.2, ← HEQ.out, ← bs_app, ← bs_app]; rfl, HGU.out _⟩
            | false =>
              rw [hpr] at CRg
              have HN : Hid (∀ b', b' < b + 1 → prR (p ++ [x] ++ [symT.getD b' 0]) = false) := fun b' h => by
                rcases Nat.lt_or_ge b' b with h' | h'
                · exact HNB.out b' h'
                · obtain rfl : b' = b := by omega
                  rw [hy.out]; exact hpr
              clear hpr
              go_wp2_with ((with_reducible refine (CRg _).mono ?_); rintro e w' ⟨rfl, u, rfl⟩)
              refine ⟨⟨b + 1, by go_num, ⟨by omega, HN.out⟩, _, rfl⟩, ?_⟩
              simp [intOf]; omega
          · obtain rfl : b = 37 := by omega
            have HN : Hid (WrA p (a + 1)) := fun a' b' h h' => by
              rcases Nat.lt_or_ge a' a with h2 | h2
              · exact HNO.out a' b' h2 h'
              · obtain rfl : a' = a := by omega
                rw [hx.out]; exact HNB.out b' h'
            go_wp2_with fail
            refine ⟨⟨a + 1, by go_num, ⟨by omega, HN.out⟩, _, rfl⟩, ?_⟩
            simp [intOf]; omega
      · exfalso
        obtain rfl : a = 37 := by omega
        obtain ⟨a', b', h1, h2, h3⟩ := chk_syms HCAN.out
        have := HNO.out a' b' h1 h2
        rw [← h3, prR_prt HCAN.out] at this
        cases this
end Go.Proofs.YtldicibhfmnjnaaGreatDoor

/- The plain side of the reference's Read in layer 46. No program in sight. -/
set_option linter.unusedVariables false
set_option linter.unusedSimpArgs false
namespace Go.Proofs.YtldicibhfmnjnaaGreatDoor
open Go.RowKit

def fillV (s : List UInt8) : List UInt8 := match readV s with | some q => prt q | none => []
theorem fillV_some {s q : List UInt8} (h : readV s = some q) : fillV s = prt q := by unfold fillV; rw [h]
theorem fillV_none {s : List UInt8} (h : readV s = none) : fillV s = [] := by unfold fillV; rw [h]
theorem prt_ne (q : List UInt8) : prt q ≠ [] := fun h => by have := prt_len q; rw [h] at this; simp at this
def Agr (s t : List UInt8) : Prop := ∀ (k : Nat) (c : UInt8), s[k]? = some c → c = 63 ∨ t[k]? = some c
theorem word_prt {t : List UInt8} (hs : ∀ c ∈ t, isSym c = true) (h3 : 3 ≤ t.length) (h36 : t.length ≤ 36) (hw : isWord (vals t)) : canW (t.take (t.length - 2)) = true ∧ prt (t.take (t.length - 2)) = t := by
  have hc : canW (t.take (t.length - 2)) = true := by
    rw [canW_iff]
    refine ⟨fun c hc => hs c (List.mem_of_mem_take hc), ?_, ?_⟩ <;> rw [List.length_take] <;> omega
  refine ⟨hc, ?_⟩
  have hlen : (prt (t.take (t.length - 2))).length = t.length := by rw [prt_len, List.length_take]; omega
  refine vals_inj (prt_sym hc) hs (agree_eq (prt_word hc) hw (by simp only [vals, List.length_map]; exact hlen) (by simp only [vals, List.length_map]; omega) (t.length - 2) (t.length - 1) (fun k hk1 hk2 => ?_))
  rw [vals_at, vals_at]
  congr 1
  rcases Nat.lt_or_ge k (t.length - 2) with hlt | hge
  · unfold prt
    rw [List.getElem?_append_left (by rw [List.length_take]; omega), List.getElem?_take_of_lt hlt]
  · rw [List.getElem?_eq_none (by omega), List.getElem?_eq_none (by omega)]
theorem read_sound {s q : List UInt8} (hR : canR s = true) (h : readV s = some q) : canW q = true ∧ s.length = q.length + 2 ∧ Agr s (prt q) := by
  obtain ⟨h1, h3, h36⟩ := (canR_iff s).1 hR
  unfold readV at h
  cases hf : fillP (vals s) with
  | none => rw [hf] at h; cases h
  | some f =>
    rw [hf] at h
    obtain ⟨f1, f2, f3⟩ := fill_spec (vals_low s) hf
    by_cases hz : oneP f = 0 ∧ twoP f = 0
    · simp only [Option.bind_some, if_pos hz, Option.some.injEq] at h
      have hw := (word_sums f2).1 hz
      have hts : ∀ c ∈ f.map symC, isSym c = true := fun c hc => by
        obtain ⟨v, hv, rfl⟩ := List.mem_map.1 hc
        exact symC_sym (f2 v hv).1 (f2 v hv).2
      have hvt : vals (f.map symC) = f := by
        unfold vals
        rw [List.map_map]
        conv => rhs; rw [← List.map_id f]
        exact List.map_congr_left fun v hv => symV_C' (f2 v hv).1 (f2 v hv).2
      have hfl : f.length = s.length := by rw [f1]; simp [vals]
      obtain ⟨g1, g2⟩ := word_prt hts (by rw [List.length_map]; omega) (by rw [List.length_map]; omega) (by rw [hvt]; exact hw)
      rw [List.length_map, ← List.map_take, h] at g1 g2
      have hql : s.length = q.length + 2 := by have := congrArg List.length g2; rw [prt_len, List.length_map] at this; omega
      refine ⟨g1, hql, fun k c hk => ?_⟩
      have hok := h1 c (List.mem_of_getElem? hk)
      unfold okC at hok
      simp only [Bool.or_eq_true, beq_iff_eq] at hok
      rcases hok with hok | hok
      · right
        have h5 := f3 k (symV c) (by rw [vals_at, hk]; rfl) (by unfold isSym at hok; simpa using hok)
        rw [g2, List.getElem?_map, h5]
        exact congrArg some (symC_V c hok)
      · exact .inl hok
    · simp [hz] at h
theorem few_q : ∀ (s : List UInt8), (s.count 63 = 0 → ∀ k : Nat, s[k]? ≠ some 63) ∧ (s.count 63 ≤ 1 → ∃ i : Nat, ∀ k : Nat, k ≠ i → s[k]? ≠ some 63) ∧ (s.count 63 ≤ 2 → ∃ i j : Nat, ∀ k : Nat, k ≠ i → k ≠ j → s[k]? ≠ some 63)
  | [] => by simp
  | c :: r => by
    obtain ⟨h0, h1, h2⟩ := few_q r
    by_cases hc : c = 63
    · subst hc
      rw [List.count_cons_self]
      refine ⟨fun h => by omega, fun h => ⟨0, fun k hk => ?_⟩, fun h => ?_⟩
      · match k, hk with
        | k + 1, _ => exact fun h' => h0 (by omega) k (by simpa using h')
      · obtain ⟨i, hi⟩ := h1 (by omega)
        refine ⟨0, i + 1, fun k hk hk2 => ?_⟩
        match k, hk, hk2 with
        | k + 1, _, hk2 => exact fun h' => hi k (by omega) (by simpa using h')
    · rw [List.count_cons_of_ne hc]
      refine ⟨fun h k => ?_, fun h => ?_, fun h => ?_⟩
      · match k with
        | 0 => simpa using hc
        | k + 1 => exact fun h' => h0 h k (by simpa using h')
      · obtain ⟨i, hi⟩ := h1 h
        refine ⟨i + 1, fun k hk => ?_⟩
        match k, hk with
        | 0, _ => simpa using hc
        | k + 1, hk => exact fun h' => hi k (by omega) (by simpa using h')
      · obtain ⟨i, j, hi⟩ := h2 h
        refine ⟨i + 1, j + 1, fun k hk hk2 => ?_⟩
        match k, hk, hk2 with
        | 0, _, _ => simpa using hc
        | k + 1, hk, hk2 => exact fun h' => hi k (by omega) (by omega) (by simpa using h')
theorem read_complete {s q : List UInt8} (h2 : s.count 63 ≤ 2) (hq : canW q = true) (hl : s.length = q.length + 2) (ha : Agr s (prt q)) : readV s = some q := by
  obtain ⟨i, j, hij⟩ := (few_q s).2.2 h2
  refine read_q hq hl i j (fun k hk1 hk2 => ?_) ha
  rcases Nat.lt_or_ge k s.length with hlt | hge
  · have e := List.getElem?_eq_getElem hlt
    rw [e]
    rcases ha k _ e with h | h
    · rw [h] at e; exact absurd e (hij k hk1 hk2)
    · exact h.symm
  · rw [List.getElem?_eq_none hge, List.getElem?_eq_none (by rw [prt_len]; omega)]
theorem sym_ne {c : UInt8} (h : isSym c = true) : c ≠ 63 := fun e => by rw [e, sym_q] at h; cases h
theorem fill_none {s : List UInt8} (hR : canR s = true) (h0 : s.count 63 = 0) : fillV s = if prR s then s else [] := by
  obtain ⟨h1, h3, h36⟩ := (canR_iff s).1 hR
  have hno := (few_q s).1 h0
  have hsym : ∀ c ∈ s, isSym c = true := fun c hc => by
    have hok := h1 c hc
    unfold okC at hok
    simp only [Bool.or_eq_true, beq_iff_eq] at hok
    rcases hok with hok | hok
    · exact hok
    · obtain ⟨k, hk, e⟩ := List.getElem_of_mem hc
      exact absurd (by rw [List.getElem?_eq_getElem hk, e, hok]) (hno k)
  cases hr : readV s with
  | some q =>
    obtain ⟨g1, g2, g3⟩ := read_sound hR hr
    have he : prt q = s := by
      apply List.ext_getElem?
      intro k
      rcases Nat.lt_or_ge k s.length with hlt | hge
      · have e := List.getElem?_eq_getElem hlt
        rw [e]
        rcases g3 k _ e with h | h
        · rw [h] at e; exact absurd e (hno k)
        · exact h
      · rw [List.getElem?_eq_none hge, List.getElem?_eq_none (by rw [prt_len]; omega)]
    rw [fillV_some hr, he, if_pos (by rw [← he]; exact prR_prt g1)]
  | none =>
    rw [fillV_none hr]
    cases hp : prR s with
    | false => rfl
    | true =>
      exfalso
      obtain ⟨_, _, hw⟩ := (prR_word hsym).1 hp
      obtain ⟨g1, g2⟩ := word_prt hsym h3 h36 hw
      have := read_complete (s := s) (q := s.take (s.length - 2)) (by omega) g1 (by rw [List.length_take]; omega) (by rw [g2]; exact fun k c h => .inr h)
      rw [this] at hr; cases hr
theorem set_split {s : List UInt8} {i : Nat} (h : i < s.length) (x : UInt8) : s.set i x = s.take i ++ [x] ++ s.drop (i + 1) := by
  rw [List.set_eq_take_append_cons_drop, if_pos h]; simp
theorem count_set {s : List UInt8} {i : Nat} {x : UInt8} (h : s[i]? = some 63) (hx : x ≠ 63) : (s.set i x).count 63 + 1 = s.count 63 := by
  have hi : i < s.length := by rcases Nat.lt_or_ge i s.length with h' | h'; exact h'; rw [List.getElem?_eq_none h'] at h; cases h
  have e : s = s.take i ++ 63 :: s.drop (i + 1) := by
    rw [← drop_at h, List.take_append_drop]
  conv => rhs; rw [e]
  rw [set_split hi, List.count_append, List.count_append, List.count_append, List.count_cons_self, List.count_singleton, if_neg (by simpa using hx)]
  omega
theorem canR_set {s : List UInt8} (h : canR s = true) (i : Nat) {x : UInt8} (hx : isSym x = true) : canR (s.set i x) = true := by
  obtain ⟨h1, h3, h36⟩ := (canR_iff s).1 h
  exact (canR_iff _).2 ⟨ok_set h1 i (sym_ok hx), by simpa using h3, by simpa using h36⟩
theorem fill_step {s : List UInt8} {i : Nat} {x : UInt8} (hR : canR s = true) (h2 : s.count 63 ≤ 2) (hi : s[i]? = some 63) (hx : isSym x = true) (hne : fillV (s.set i x) ≠ []) : fillV s = fillV (s.set i x) := by
  cases hr : readV (s.set i x) with
  | none => exact absurd (fillV_none hr) hne
  | some q =>
    obtain ⟨g1, g2, g3⟩ := read_sound (canR_set hR i hx) hr
    rw [fillV_some hr, fillV_some (read_complete h2 g1 (by simpa using g2) (fun k c hk => ?_))]
    rcases Nat.decEq k i with hki | hki
    · exact g3 k c (by rw [set_off hki]; exact hk)
    · subst hki; rw [hi] at hk; exact .inl (Option.some.inj hk).symm
theorem sy_of {c : UInt8} (h : isSym c = true) : ∃ a, a < 37 ∧ symT.getD a 0 = c := by
  have hr := symV_range c
  have h0 : 0 ≤ symV c := by unfold isSym at h; simpa using h
  exact ⟨(symV c).toNat, by omega, symC_V c h⟩
theorem fill_never {s : List UInt8} {i : Nat} (hR : canR s = true) (h2 : s.count 63 ≤ 2) (hi : s[i]? = some 63) (hno : ∀ a, a < 37 → fillV (s.set i (symT.getD a 0)) = []) : fillV s = [] := by
  cases hr : readV s with
  | none => exact fillV_none hr
  | some q =>
    exfalso
    obtain ⟨g1, g2, g3⟩ := read_sound hR hr
    have hil : i < s.length := by rcases Nat.lt_or_ge i s.length with h' | h'; exact h'; rw [List.getElem?_eq_none h'] at hi; cases hi
    have hip : i < (prt q).length := by rw [prt_len]; omega
    obtain ⟨c, hc⟩ : ∃ c, (prt q)[i]? = some c := ⟨_, List.getElem?_eq_getElem hip⟩
    have hcs := prt_sym g1 c (List.mem_of_getElem? hc)
    obtain ⟨a, ha, hac⟩ := sy_of hcs
    have hr' : readV (s.set i c) = some q := by
      refine read_complete ?_ g1 (by simpa using g2) (fun k d hk => ?_)
      · have := count_set hi (sym_ne hcs); omega
      · rcases Nat.decEq k i with hki | hki
        · rw [set_off hki] at hk; exact g3 k d hk
        · subst hki
          rw [List.getElem?_set_self hil] at hk
          exact .inr (by rw [hc, hk])
    have := hno a ha
    rw [hac, fillV_some hr'] at this
    exact prt_ne q this
theorem three_q {s : List UInt8} (h : 2 < s.count 63) : readV s = none := by
  have step : ∀ (l : List UInt8), 0 < l.count 63 → ∃ i : Nat, l[i]? = some 63 ∧ (l.drop (i + 1)).count 63 + 1 = l.count 63 := by
    intro l
    induction l with
    | nil => intro h; simp at h
    | cons c r ih =>
      intro h
      by_cases hc : c = 63
      · subst hc; exact ⟨0, rfl, by rw [List.count_cons_self]; rfl⟩
      · rw [List.count_cons_of_ne hc] at h ⊢
        obtain ⟨i, h1, h2⟩ := ih h
        exact ⟨i + 1, by simpa using h1, by simpa using h2⟩
  obtain ⟨i, h1, c1⟩ := step s (by omega)
  obtain ⟨j, h2, c2⟩ := step _ (by omega : 0 < (s.drop (i + 1)).count 63)
  obtain ⟨k, h3, c3⟩ := step _ (by omega : 0 < ((s.drop (i + 1)).drop (j + 1)).count 63)
  rw [List.getElem?_drop] at h2
  rw [List.drop_drop, List.getElem?_drop] at h3
  exact read_three h1 h2 h3 (by omega) (by omega) (by omega)
end Go.Proofs.YtldicibhfmnjnaaGreatDoor

/- Walks of the reference of layer 46: fill, Read. -/
set_option linter.unusedVariables false
set_option linter.unusedSimpArgs false
namespace Go.Proofs.YtldicibhfmnjnaaGreatDoor
open Go.RowKit

set_option maxRecDepth 100000 in
set_option maxHeartbeats 4000000 in
theorem rfill_step (n : Nat) (IH : ∀ s', canR s' = true → s'.count 63 < n → ∀ w, Calls Tryz.prog 40 #[.string (bs s')] w fun e w' => e = .returned (.string (bs (fillV s'))) ∧ Below w.heap.size w w')
    (s : List UInt8) (hR : canR s = true) (hn : s.count 63 = n) (h2 : n ≤ 2) (w : World) : Calls Tryz.prog 40 #[.string (bs s)] w fun e w' => e = .returned (.string (bs (fillV s))) ∧ Below w.heap.size w w' := by
  have hsz : (bs s).size = s.length := bs_size s
  have h36 := ((canR_iff s).1 hR).2
  have HR := hide hR
  have HN := hide hn
  clear hR hn
  obtain ⟨U, hU, g, u0, rfl, hgu, hi⟩ := cls w
  have HGU := hide hgu
  have HHI := hide hi
  clear hgu hi
  go_enter Tryz.func40, Tryz.ntmps40
  go_wp2_with fail
  go_loopw [3, 4, 5] (fun i _ _ wr => ∃ k : Nat, i = .int .i64 (k : Int) ∧ (k ≤ s.length ∧ ∀ j : Nat, j < k → s[j]? ≠ some 63) ∧ ∃ u, wr = g u) (fun i _ _ _ => s.length - (intOf i).toNat)
  case atStart => exact ⟨0, rfl, ⟨by omega, fun j h => absurd h (by omega)⟩, u0, by first | rfl | assumption⟩
  case round =>
    obtain ⟨k, rfl, ⟨hk, hno⟩, u1, rfl⟩ := hrel
    have HNO := hide hno
    clear hno
    by_cases hlt : k < s.length
    · have e1 : decide ((k : Int) < (s.length : Int)) = true := decide_eq_true (by omega)
      obtain ⟨c, hc⟩ : ∃ c, s[k]? = some c := ⟨_, List.getElem?_eq_getElem hlt⟩
      have ci := index_bs s k c hc
      by_cases h63 : c = 63
      · have HI : Hid (s[k]? = some 63) := by show _ = _; rw [hc, h63]
        have e2 : ((c.toNat : Int) != 63) = false := by rw [h63]; rfl
        have hx0 : (bs s).extract 0 k = bs (s.take k) := by rw [bs_cut, List.drop_zero, Nat.sub_zero]
        have hx1 : (bs s).extract (k + 1) s.length = bs (s.drop (k + 1)) := bs_from s (k + 1)
        have hz0 : (bs (s.take k)).size = k := by rw [bs_size, List.length_take]; omega
        have hz1 : (bs (s.drop (k + 1))).size = s.length - (k + 1) := by rw [bs_size, List.length_drop]
        have CF : ∀ x, isSym x = true → ∀ u, Calls Tryz.prog 40 #[.string (bs (s.take k) ++ bs [x] ++ bs (s.drop (k + 1)))] (g u) fun e w' => e = .returned (.string (bs (fillV (s.set k x)))) ∧ ∃ u', w' = g u' := fun x hx u => by
          rw [bs_app, bs_app, ← set_split hlt]
          exact (IH (s.set k x) (canR_set HR.out k hx) (by have := count_set HI.out (sym_ne hx); have := HN.out; omega) (g u)).mono fun e w' ⟨he, hb⟩ => ⟨he, HHI.out _ (below_to (HGU.out u) (Nat.le_refl _) hb)⟩
        clear hc h63 IH
        go_wp2_with fail
        go_loopw [4, 5] (fun a _ wr => ∃ m : Nat, a = .int .i64 (m : Int) ∧ (m ≤ 37 ∧ ∀ a', a' < m → fillV (s.set k (symT.getD a' 0)) = []) ∧ ∃ u, wr = g u) (fun a _ _ => 37 - (intOf a).toNat)
        case atStart => exact ⟨0, rfl, ⟨by omega, fun a' h => absurd h (by omega)⟩, _, rfl⟩
        case round =>
          obtain ⟨m, rfl, ⟨hm, hnm⟩, u2, rfl⟩ := hrel
          have HNM := hide hnm
          clear hnm
          by_cases hml : m < 37
          · have e3 : decide ((m : Int) < 37) = true := decide_eq_true (by omega)
            have hxb := sy_ext m hml
            have CX := CF _ (sy_sym m hml)
            have HST : Hid (fillV (s.set k (symT.getD m 0)) ≠ [] → fillV s = fillV (s.set k (symT.getD m 0))) := fill_step HR.out (by have := HN.out; omega) HI.out (sy_sym m hml)
            obtain ⟨y, hy⟩ : ∃ y, Hid (symT.getD m 0 = y) := ⟨_, rfl⟩
            rw [hy.out] at hxb CX HST
            have hzy : (bs [y]).size = 1 := rfl
            cases hF : fillV (s.set k y) with
            | nil =>
              rw [hF] at CX
              have HE : Hid (∀ a', a' < m + 1 → fillV (s.set k (symT.getD a' 0)) = []) := fun a' h => by
                rcases Nat.lt_or_ge a' m with h' | h'
                · exact HNM.out a' h'
                · obtain rfl : a' = m := by omega
                  rw [hy.out]; exact hF
              have e4 : (bs ([] : List UInt8)).toList.isEmpty = true := by rw [bs_toList]; rfl
              clear hF HST
              generalize bs ([] : List UInt8) = E0 at *
              go_wp2_with fail
              refine wp_region_class g (by kernel_rfl) (by kernel_rfl) (HHI.out _ (HGU.out _).drew) ?_
              repeat (go_big_quiet_step (with_reducible exact CX _))
              refine wpQuiet_nil ?_
              intro w5 hw5
              obtain ⟨u, rfl⟩ := hw5
              go_wp2_with fail
              refine ⟨⟨m + 1, by go_num, ⟨by omega, HE.out⟩, _, rfl⟩, ?_⟩
              simp [intOf]; omega
            | cons f0 fr =>
              rw [hF] at CX HST
              have HV := hide (HST.out (by simp))
              have e4 : (bs (f0 :: fr)).toList.isEmpty = false := by rw [bs_toList]; rfl
              clear hF HST
              generalize f0 :: fr = F at *
              generalize hBF : bs F = BF at *
              have HBF := hide hBF
              clear hBF
              go_wp2_with fail
              refine wp_region_class g (by kernel_rfl) (by kernel_rfl) (HHI.out _ (HGU.out _).drew) ?_
              repeat (go_big_quiet_step (with_reducible exact CX _))
              refine wpQuiet_nil ?_
              intro w5 hw5
              obtain ⟨u, rfl⟩ := hw5
              go_wp2_with fail
              go_ret
              exact ⟨ret_str' (by rw [HV.out, HBF.out]), HGU.out _⟩
          · obtain rfl : m = 37 := by omega
            have HV := hide (fill_never HR.out (by have := HN.out; omega) HI.out HNM.out)
            go_wp2_with fail
            go_ret
            exact ⟨ret_str' (by rw [HV.out]; rfl), HGU.out _⟩
      · have e2 : ((c.toNat : Int) != 63) = true := by
          rw [bne_iff_ne]; intro h'; exact h63 (UInt8.toNat_inj.1 (by show c.toNat = 63; omega))
        have HNE : Hid (∀ j : Nat, j < k + 1 → s[j]? ≠ some 63) := fun j h => by
          rcases Nat.lt_or_ge j k with h' | h'
          · exact HNO.out j h'
          · obtain rfl : j = k := by omega
            rw [hc]; exact fun h => h63 (Option.some.inj h)
        clear hc h63 IH
        go_wp2_with fail
        refine ⟨⟨k + 1, by go_num, ⟨by omega, HNE.out⟩, _, rfl⟩, ?_⟩
        simp [intOf]; omega
    · obtain rfl : k = s.length := by omega
      have e1 : decide ((s.length : Int) < (s.length : Int)) = false := by simp
      have h0 : s.count 63 = 0 := by
        rw [List.count_eq_zero]
        intro hm
        obtain ⟨j, hj, e⟩ := List.getElem_of_mem hm
        exact HNO.out j hj (by rw [List.getElem?_eq_getElem hj, e])
      have HV := hide (fill_none HR.out h0)
      have CR := fun w => rPrinted_any s (by omega) w
      clear h0 IH
      cases hp : prR s with
      | true =>
        rw [hp] at CR HV
        clear hp
        go_wp2_with ((with_reducible refine (CR _).mono ?_); rintro e w' ⟨rfl, hw⟩; rw [hw])
        go_ret
        exact ⟨ret_str' (by rw [HV.out]; rfl), HGU.out _⟩
      | false =>
        rw [hp] at CR HV
        clear hp
        go_wp2_with ((with_reducible refine (CR _).mono ?_); rintro e w' ⟨rfl, hw⟩; rw [hw])
        go_ret
        exact ⟨ret_str' (by rw [HV.out]; rfl), HGU.out _⟩
theorem rfill_any : ∀ (n : Nat), n ≤ 2 → ∀ s : List UInt8, canR s = true → s.count 63 ≤ n → ∀ w, Calls Tryz.prog 40 #[.string (bs s)] w fun e w' => e = .returned (.string (bs (fillV s))) ∧ Below w.heap.size w w'
  | 0, _, s, hR, hn, w => rfill_step 0 (fun s' _ h => absurd h (by omega)) s hR (by omega) (by omega) w
  | n + 1, h2, s, hR, hn, w => by
    rcases Nat.lt_or_ge (s.count 63) (n + 1) with h | h
    · exact rfill_any n (by omega) s hR (by omega) w
    · exact rfill_step (n + 1) (fun s' hR' h' w' => rfill_any n (by omega) s' hR' (by omega) w') s hR (by omega) h2 w
end Go.Proofs.YtldicibhfmnjnaaGreatDoor

/- Walks of the reference of layer 46: Read. -/
set_option linter.unusedVariables false
set_option linter.unusedSimpArgs false
namespace Go.Proofs.YtldicibhfmnjnaaGreatDoor
open Go.RowKit

theorem read_err {s : List UInt8} (h : canR s = false) : readE s = 1 ∧ readP s = [] := by unfold readE readP; rw [h]; exact ⟨rfl, rfl⟩
set_option maxRecDepth 100000 in
set_option maxHeartbeats 4000000 in
theorem rRead_any (s : List UInt8) (hs : s.length ≤ 1000000) (w : World) : Calls Tryz.prog 19 #[.string (bs s)] w fun e w' => e = .returned (.tuple #[.string (bs (readP s)), .int .i64 (readE s)]) ∧ Below w.heap.size w w' := by
  have hsz : (bs s).size = s.length := bs_size s
  go_enter Tryz.func19, Tryz.ntmps19
  go_wp2_with fail
  go_loopw [4, 5] (fun n i wr => ∃ k : Nat, i = .int .i64 (k : Int) ∧ n = .int .i64 ((s.take k).count 63 : Nat) ∧ (k ≤ s.length ∧ ∀ c ∈ s.take k, okC c = true) ∧ wr = w) (fun _ i _ => s.length - (intOf i).toNat)
  case atStart => exact ⟨0, rfl, rfl, ⟨by omega, by simp⟩, rfl⟩
  case round =>
    obtain ⟨k, rfl, rfl, ⟨hk, hok⟩, rfl⟩ := hrel
    have HOK := hide hok
    have hcn : (s.take k).count 63 ≤ k := Nat.le_trans List.count_le_length (by rw [List.length_take]; omega)
    clear hok
    by_cases hlt : k < s.length
    · have e1 : decide ((k : Int) < (s.length : Int)) = true := decide_eq_true (by omega)
      obtain ⟨c, hc⟩ : ∃ c, s[k]? = some c := ⟨_, List.getElem?_eq_getElem hlt⟩
      have ci := index_bs s k c hc
      have HC := hide hc
      have HT : Hid (s.take (k + 1) = s.take k ++ [c]) := by show _ = _; rw [List.take_add_one, hc]; rfl
      by_cases h63 : c = 63
      · have e2 : ((c.toNat : Int) == 63) = true := by rw [h63]; rfl
        have HN : Hid ((s.take (k + 1)).count 63 = (s.take k).count 63 + 1) := by show _ = _; rw [HT.out, h63, List.count_append]; rfl
        have HO : Hid (∀ x ∈ s.take (k + 1), okC x = true) := fun x hx => by
          rw [HT.out] at hx
          rcases List.mem_append.1 hx with h | h
          · exact HOK.out x h
          · simp at h; rw [h, h63]; exact q_ok
        clear hc h63
        generalize (s.take k).count 63 = N at *
        go_wp2_with fail
        refine ⟨⟨k + 1, by go_num, by rw [HN.out]; go_num, ⟨by omega, HO.out⟩, (by first | rfl | trivial)⟩, ?_⟩
        simp [intOf]; omega
      · have e2 : ((c.toNat : Int) == 63) = false := by
          rw [beq_eq_false_iff_ne]; intro h'; exact h63 (UInt8.toNat_inj.1 (by show c.toNat = 63; omega))
        have CV := fun w => rvalue_any c w
        have HN : Hid ((s.take (k + 1)).count 63 = (s.take k).count 63) := by show _ = _; rw [HT.out, List.count_append, List.count_singleton, if_neg (by simpa using h63)]; rfl
        by_cases hv : symV c < 0
        · have hno : canR s = false := by
            rw [← Bool.not_eq_true, canR_iff]
            rintro ⟨h1, _⟩
            have := h1 c (List.mem_of_getElem? hc)
            unfold okC isSym at this
            simp [h63] at this
            omega
          have HE := hide (read_err hno)
          have e3 : decide (symV c < 0) = true := decide_eq_true hv
          clear hc h63 hv hno
          generalize symV c = v at *
          go_wp2_with ((with_reducible refine (CV _).mono ?_); rintro e w' ⟨rfl, hw⟩; rw [hw])
          go_ret2
          exact ⟨by rw [HE.out.1, HE.out.2]; rfl, Below.refl _ _⟩
        · have HO : Hid (∀ x ∈ s.take (k + 1), okC x = true) := fun x hx => by
            rw [HT.out] at hx
            rcases List.mem_append.1 hx with h | h
            · exact HOK.out x h
            · simp at h; rw [h]; exact sym_ok (by unfold isSym; exact decide_eq_true (by omega))
          have e3 : decide (symV c < 0) = false := decide_eq_false hv
          clear hc h63 hv
          generalize symV c = v at *
          generalize hNN : (s.take k).count 63 = N at *
          go_wp2_with ((with_reducible refine (CV _).mono ?_); rintro e w' ⟨rfl, hw⟩; rw [hw])
          refine ⟨⟨k + 1, by go_num, by rw [HN.out], ⟨by omega, HO.out⟩, (by first | rfl | trivial)⟩, ?_⟩
          simp [intOf]; omega
    · obtain rfl : k = s.length := by omega
      have e1 : decide ((s.length : Int) < (s.length : Int)) = false := by simp
      have HOK' : Hid (∀ c ∈ s, okC c = true) := by have := HOK.out; rw [List.take_length] at this; exact this
      rw [List.take_length] at hcn ⊢
      clear HOK
      by_cases h3 : s.length < 3
      · have e3 : decide ((s.length : Int) < 3) = true := decide_eq_true (by omega)
        have HE := hide (read_err (s := s) (by rw [← Bool.not_eq_true, canR_iff]; rintro ⟨_, h, _⟩; omega))
        generalize s.count 63 = N at *
        go_wp2_with fail
        go_ret2
        exact ⟨by rw [HE.out.1, HE.out.2]; rfl, Below.refl _ _⟩
      have e3 : decide ((s.length : Int) < 3) = false := decide_eq_false (by omega)
      by_cases h36 : 36 < s.length
      · have e4 : decide ((36 : Int) < (s.length : Int)) = true := decide_eq_true (by omega)
        have HE := hide (read_err (s := s) (by rw [← Bool.not_eq_true, canR_iff]; rintro ⟨_, _, h⟩; omega))
        generalize s.count 63 = N at *
        go_wp2_with fail
        go_ret2
        exact ⟨by rw [HE.out.1, HE.out.2]; rfl, Below.refl _ _⟩
      have e4 : decide ((36 : Int) < (s.length : Int)) = false := decide_eq_false (by omega)
      have hR : canR s = true := (canR_iff s).2 ⟨HOK'.out, by omega, by omega⟩
      by_cases hq : 2 < s.count 63
      · have e5 : decide ((2 : Int) < ((s.count 63 : Nat) : Int)) = true := decide_eq_true (by omega)
        have HE := hide (read_no hR (three_q hq))
        clear hR hq
        generalize s.count 63 = N at *
        go_wp2_with fail
        go_ret2
        exact ⟨by rw [HE.out.1, HE.out.2]; rfl, Below.refl _ _⟩
      have e5 : decide ((2 : Int) < ((s.count 63 : Nat) : Int)) = false := decide_eq_false (by omega)
      have CF := fun w => rfill_any 2 (by omega) s hR (by omega) w
      cases hr : readV s with
      | none =>
        have HE := hide (read_no hR hr)
        rw [fillV_none hr] at CF
        have e6 : (bs ([] : List UInt8)).toList.isEmpty = true := by rw [bs_toList]; rfl
        clear hR hq hr HOK'
        generalize s.count 63 = N at *
        generalize bs ([] : List UInt8) = E0 at *
        go_wp2_with ((with_reducible refine (CF _).mono ?_); rintro e w' ⟨rfl, hb⟩)
        go_ret2
        exact ⟨by rw [HE.out.1, HE.out.2]; rfl, by assumption⟩
      | some q =>
        have HE := hide (read_ok hR hr)
        rw [fillV_some hr] at CF
        have e6 : (bs (prt q)).toList.isEmpty = false := by
          rw [bs_toList]
          cases h : prt q with
          | nil => exact absurd h (prt_ne q)
          | cons _ _ => rfl
        have hzq : (bs (prt q)).size = q.length + 2 := by rw [bs_size, prt_len]
        have hcut : (bs (prt q)).extract 0 q.length = bs q := by
          rw [bs_cut, List.drop_zero, Nat.sub_zero]
          unfold prt
          rw [List.take_left']
          rfl
        have hql : q.length ≤ 34 := by have := (read_sound hR hr).2.1; omega
        clear hR hq hr HOK'
        generalize s.count 63 = N at *
        generalize bs (prt q) = Z at *
        go_wp2_with ((with_reducible refine (CF _).mono ?_); rintro e w' ⟨rfl, hb⟩)
        go_ret2
        exact ⟨by rw [HE.out.1, HE.out.2]; rfl, by assumption⟩
end Go.Proofs.YtldicibhfmnjnaaGreatDoor

/- Walk of chapter 46: LabelMatchesReference. -/
set_option linter.unusedVariables false
set_option linter.unusedSimpArgs false
namespace Go.Proofs.YtldicibhfmnjnaaGreatDoor
open Go.RowKit

theorem unV_fields (p : List UInt8) : ∃ xd xo xz xh xb, unV p = .agg #[.string (bs xd), .int .i64 xo, .int .i64 xz, .int .i64 xh, .bool xb] := by
  unfold unV
  split
  · exact ⟨_, _, _, _, _, rfl⟩
  · exact ⟨_, _, _, _, _, rfl⟩
set_option maxRecDepth 100000 in
set_option maxHeartbeats 8000000 in
theorem match_any (ad : List UInt8) (ao az ah : Int) (ab : Bool) (p t : List UInt8) (w : World) (hg : Glob w) :
    Calls Tryz.prog 3 #[lval ad ao az ah ab, .string (bs p), .string (bs t)] w fun e w' => e = .returned (.bool true) ∧ Below w.heap.size w w' := by
  have CH := fun w hg => head_any w hg
  have hza : (bs ad).size = ad.length := bs_size ad
  have hzp : (bs p).size = p.length := bs_size p
  have hzt : (bs t).size = t.length := bs_size t
  have HB0 := hide (below_one w (.cells #[.string (bs ad), .int .i64 ao, .int .i64 az, .int .i64 ah, .bool ab] 23))
  have HG0 := hide (hg.alloc (.cells #[.string (bs ad), .int .i64 ao, .int .i64 az, .int .i64 ah, .bool ab] 23))
  have HA0 := hide (Blk.new w 23 #[.string (bs ad), .int .i64 ao, .int .i64 az, .int .i64 ah, .bool ab])
  clear hg
  unfold lval
  go_enter Tryz.func3, Tryz.ntmps3
  go_wp2_with fail
  generalize w.alloc (.cells #[.string (bs ad), .int .i64 ao, .int .i64 az, .int .i64 ah, .bool ab] 23) = w1 at *
  obtain ⟨b1, hb1⟩ : ∃ b, Hid (w.heap.size = b) := ⟨_, rfl⟩
  rw [hb1.out] at HA0 ⊢
  refine (CH _ HG0.out).mono ?_
  rintro e w2 ⟨rfl, hb'⟩
  have HB2 := hide (below_to HB0.out (Nat.le_refl _) hb')
  have HG2 := hide (HG0.out.to hb')
  have HA2 := hide (HA0.out.to hb')
  clear hb' CH HB0 HG0 HA0
  obtain ⟨U, hU, g, u0, rfl, hgu, hi⟩ := cls w2
  have a0 := blk_all hgu HA2.out 0 rfl
  have a1 := blk_all hgu HA2.out 1 rfl
  have a2 := blk_all hgu HA2.out 2 rfl
  have a3 := blk_all hgu HA2.out 3 rfl
  have a4 := blk_all hgu HA2.out 4 rfl
  have HGU := hide hgu
  by_cases h1 : 100 < ad.length
  · have d1 : decide ((100 : Int) < (ad.length : Int)) = true := decide_eq_true (by omega)
    clear hgu hi
    go_wp2_with fail
    go_ret
    exact ⟨rfl, HB2.out⟩
  have d1 : decide ((100 : Int) < (ad.length : Int)) = false := decide_eq_false (by omega)
  by_cases h2 : 100 < p.length
  · have d2 : decide ((100 : Int) < (p.length : Int)) = true := decide_eq_true (by omega)
    clear hgu hi
    go_wp2_with fail
    go_ret
    exact ⟨rfl, HB2.out⟩
  have d2 : decide ((100 : Int) < (p.length : Int)) = false := decide_eq_false (by omega)
  by_cases h3 : 100 < t.length
  · have d3 : decide ((100 : Int) < (t.length : Int)) = true := decide_eq_true (by omega)
    clear hgu hi
    go_wp2_with fail
    go_ret
    exact ⟨rfl, HB2.out⟩
  have d3 : decide ((100 : Int) < (t.length : Int)) = false := decide_eq_false (by omega)
  have PA := cls_call hgu hi (fun w hb => Pack_any ad (by omega) ao az ah ab w (HG2.out.to hb))
  have RA := cls_call hgu hi (fun w hb => rPack_any ad (by omega) ao az ah ab w)
  unfold lval at PA RA
  have UP := fun w hg => Unpack_any p (by omega) w hg
  have RP := fun w => rUnpack_any p w
  have WP := fun w => Write_any p (by omega) w
  have WR := fun w => rWrite_any p (by omega) w
  have TP := fun w => Read_any t (by omega) w
  have TR := fun w => rRead_any t (by omega) w
  obtain ⟨xd, xo, xz, xh, xb, eV⟩ := unV_fields p
  rw [eV] at UP RP
  clear eV h1 h2 h3
  have qx := leq_yes xd xo xz xh xb
  generalize pkP ad ao az ah ab = P1 at *
  generalize pkE ad ao az ah = E1 at *
  generalize unE p = E2 at *
  generalize writeP p = P3 at *
  generalize writeE p = E3 at *
  generalize readP t = P4 at *
  generalize readE t = E4 at *
  generalize bs P1 = S1 at *
  generalize bs P3 = S3 at *
  generalize bs P4 = S4 at *
  generalize bs p = X at *
  generalize bs t = Y at *
  have UPg := cls_call hgu hi (fun w hb => UP w (HG2.out.to hb))
  clear UP
  go_wp2_with (first | ((with_reducible refine (PA _).mono ?_); rintro e' w' ⟨rfl, uz, rfl⟩) | ((with_reducible refine (RA _).mono ?_); rintro e' w' ⟨rfl, uz, rfl⟩) | ((with_reducible refine (UPg _).mono ?_); rintro e' w' ⟨rfl, uz, rfl⟩))
  have HB3 := hide (below_alloc (below_to HB2.out (Nat.le_refl _) (HGU.out uz)) (Nat.le_refl _) (.cells #[.string (bs xd), .int .i64 xo, .int .i64 xz, .int .i64 xh, .bool xb] 23))
  have HX3 := hide (Blk.new (g uz) 23 #[.string (bs xd), .int .i64 xo, .int .i64 xz, .int .i64 xh, .bool xb])
  clear a0 a1 a2 a3 a4 PA RA UPg hgu hi HGU HB2 HG2 HA2
  generalize (g uz).alloc (.cells #[.string (bs xd), .int .i64 xo, .int .i64 xz, .int .i64 xh, .bool xb] 23) = w3 at *
  generalize (g uz).heap.size = b3 at *
  refine (RP _).mono ?_
  rintro e w4 ⟨rfl, hb4⟩
  have HB4 := hide (below_to HB3.out (Nat.le_refl _) hb4)
  have HX4 := hide (HX3.out.to hb4)
  clear hb4 HB3 HX3 RP
  go_wp2_with fail
  have HB5 := hide (below_alloc HB4.out (Nat.le_refl _) (.cells #[.string (bs xd), .int .i64 xo, .int .i64 xz, .int .i64 xh, .bool xb] 23))
  have HX5 := hide (HX4.out.alloc (.cells #[.string (bs xd), .int .i64 xo, .int .i64 xz, .int .i64 xh, .bool xb] 23))
  have HY5 := hide (Blk.new w4 23 #[.string (bs xd), .int .i64 xo, .int .i64 xz, .int .i64 xh, .bool xb])
  clear HB4 HX4
  generalize w4.alloc (.cells #[.string (bs xd), .int .i64 xo, .int .i64 xz, .int .i64 xh, .bool xb] 23) = w5 at *
  generalize w4.heap.size = b5 at *
  obtain ⟨U5, hU5, k, k0, rfl, hku, hki⟩ := cls w5
  have x0 := blk_all hku HX5.out 0 rfl
  have x1 := blk_all hku HX5.out 1 rfl
  have x2 := blk_all hku HX5.out 2 rfl
  have x3 := blk_all hku HX5.out 3 rfl
  have x4 := blk_all hku HX5.out 4 rfl
  have y0 := blk_all hku HY5.out 0 rfl
  have y1 := blk_all hku HY5.out 1 rfl
  have y2 := blk_all hku HY5.out 2 rfl
  have y3 := blk_all hku HY5.out 3 rfl
  have y4 := blk_all hku HY5.out 4 rfl
  have HKU := hide hku
  have WPk := cls_call hku hki (fun w _ => WP w)
  have WRk := cls_call hku hki (fun w _ => WR w)
  have TPk := cls_call hku hki (fun w _ => TP w)
  have TRk := cls_call hku hki (fun w _ => TR w)
  clear WP WR TP TR hku hki
  refine (WPk _).mono ?_
  rintro e w' ⟨rfl, u1, rfl⟩
  go_wp2_with fail
  refine (WRk _).mono ?_
  rintro e w' ⟨rfl, u2, rfl⟩
  go_wp2_with fail
  refine (TPk _).mono ?_
  rintro e w' ⟨rfl, u3, rfl⟩
  go_wp2_with fail
  refine (TRk _).mono ?_
  rintro e w' ⟨rfl, u4, rfl⟩
  go_wp2_with fail
  go_ret
  exact ⟨rfl, below_to HB5.out (Nat.le_refl _) (HKU.out _)⟩
end Go.Proofs.YtldicibhfmnjnaaGreatDoor
