/- Walks of the reference of layer 22: common, Valid. -/
import Derived.Test.YtabphhclnboknaaDoorRd
set_option linter.unusedVariables false
set_option linter.unusedSimpArgs false
namespace Go.Proofs.YtabphhclnboknaaDoor
open Go.RowKit

def CoI (a b : Nat) (w wr : World) (d : Value) : Prop := ∃ k : Nat, d = .int .i64 (k : Int) ∧ 2 ≤ k ∧ k ≤ a + 2 ∧ Hid (comB a b k = false) ∧ w = wr
set_option maxHeartbeats 2000000 in
theorem rcommon_any (a b : Nat) (ha : 1 ≤ a) (h9 : a ≤ 9) (hb : b ≤ 9) (w : World) : Calls Tryd.prog 45 #[.int .i64 (a : Int), .int .i64 (b : Int)] w fun e w' => e = .returned (.bool (commonB a b)) ∧ w = w' := by
  go_enter Tryd.func45, Tryd.ntmps45
  go_wp2_with fail
  go_loopw [5] (fun d wr => CoI a b w wr d) (fun d _ => (a + 2 - intOf d).toNat)
  case atStart => exact ⟨2, rfl, by omega, by omega, comB_two a b, rfl⟩
  case round =>
    obtain ⟨k, rfl, h2, hk, HC, rfl⟩ := hrel
    by_cases h1 : k ≤ a
    · have e1 : decide ((k : Int) ≤ (a : Int)) = true := decide_eq_true (by omega)
      have HS := hide (comB_succ a b k)
      rw [HC.out, decide_eq_true h2, Bool.false_or, Bool.true_and] at HS
      obtain ⟨x, hx, hx'⟩ : ∃ x, a % k = x ∧ x ≤ 9 := ⟨_, rfl, by have := Nat.mod_le a k; omega⟩
      obtain ⟨y, hy, hy'⟩ : ∃ y, b % k = y ∧ y ≤ 9 := ⟨_, rfl, by have := Nat.mod_le b k; omega⟩
      have t1 : (a : Int).tmod (k : Int) = (x : Int) := by rw [Int.tmod_eq_emod_of_nonneg (by omega), ← hx, Int.natCast_emod]
      have t2 : (b : Int).tmod (k : Int) = (y : Int) := by rw [Int.tmod_eq_emod_of_nonneg (by omega), ← hy, Int.natCast_emod]
      have k0 : ((k : Int) == 0) = false := by rw [beq_eq_false_iff_ne]; omega
      rw [hx, hy] at HS
      clear hx hy HC
      by_cases hx0 : x = 0
      · have e2 : ((x : Int) == 0) = true := by rw [beq_iff_eq]; omega
        by_cases hy0 : y = 0
        · have e3 : ((y : Int) == 0) = true := by rw [beq_iff_eq]; omega
          have HV : Hid (commonB a b = true) := comB_mono (HS.out.trans (by rw [decide_eq_true hx0, decide_eq_true hy0]; rfl)) (by omega)
          clear hx0 hy0
          go_wp2_with fail
          go_ret
          exact ⟨ret_bool HV.out.symm, rfl⟩
        · have e3 : ((y : Int) == 0) = false := by rw [beq_eq_false_iff_ne]; omega
          have HV : Hid (comB a b (k + 1) = false) := HS.out.trans (by rw [decide_eq_false hy0, Bool.and_false])
          clear hx0 hy0
          go_wp2_with fail
          refine ⟨⟨k + 1, by go_num, by omega, by omega, HV.out, rfl⟩, ?_⟩
          simp [intOf]; omega
      · have e2 : ((x : Int) == 0) = false := by rw [beq_eq_false_iff_ne]; omega
        have HV : Hid (comB a b (k + 1) = false) := HS.out.trans (by rw [decide_eq_false hx0, Bool.false_and])
        clear hx0
        go_wp2_with fail
        refine ⟨⟨k + 1, by go_num, by omega, by omega, HV.out, rfl⟩, ?_⟩
        simp [intOf]; omega
    · have e1 : decide ((k : Int) ≤ (a : Int)) = false := decide_eq_false (by omega)
      have HV : Hid (commonB a b = false) := by
        show commonB a b = false
        rw [← Bool.not_eq_true]
        intro h
        have := comB_mono (m := k) h (by omega)
        rw [HC.out] at this; cases this
      clear HC
      go_wp2_with fail
      go_ret
      exact ⟨ret_bool HV.out.symm, rfl⟩
theorem less_one (c d : UInt8) : Op.bytesLess [c] [d] = decide (c.toNat < d.toNat) := by
  simp [Op.bytesLess, UInt8.lt_iff_toNat_lt]
  try (intro h h'; omega)
set_option maxHeartbeats 4000000 in
theorem rValid_any (h : HN) (w : World) (hl : h.fit) : Calls Tryd.prog 20 #[hval h] w fun e w' => e = .returned (.bool h.valid) ∧ Below w.heap.size w w' := by
  obtain ⟨n, l, num, den⟩ := h
  have HB0 := hide ((Below.refl w.heap.size w).alloc (Nat.le_refl _) (.cells #[.int .i64 n, .string ⟨l.toArray⟩, .int .i64 num, .int .i64 den] 23))
  have HL : Hid (l.length ≤ maxLen) := by have : (bs l).size ≤ maxLen := hl; show _ ≤ _; rwa [bs_size] at this
  clear hl
  by_cases h1 : n < 1
  · have e1 : decide (n < 1) = true := decide_eq_true h1
    have HV : Hid (HN.valid ⟨n, l, num, den⟩ = false) := valid_f1 (h := ⟨n, l, num, den⟩) (by show ¬ 1 ≤ n; omega)
    clear h1
    go_enter Tryd.func20, Tryd.ntmps20
    unfold hval
    go_wp2_with fail
    go_ret
    exact ⟨ret_bool HV.out.symm, HB0.out⟩
  have e1 : decide (n < 1) = false := decide_eq_false h1
  by_cases h2 : 9999 < n
  · have e2 : decide (9999 < n) = true := decide_eq_true h2
    have HV : Hid (HN.valid ⟨n, l, num, den⟩ = false) := valid_f2 (h := ⟨n, l, num, den⟩) (by show ¬ n ≤ 9999; omega)
    clear h1 h2
    go_enter Tryd.func20, Tryd.ntmps20
    unfold hval
    go_wp2_with fail
    go_ret
    exact ⟨ret_bool HV.out.symm, HB0.out⟩
  have e2 : decide (9999 < n) = false := decide_eq_false h2
  have HF0 : ∀ L, letterB L = true → HN.valid ⟨n, L, num, den⟩ = fracB num den := fun L hL => (valid_t (h := ⟨n, L, num, den⟩) (by show 1 ≤ n; omega) (by show n ≤ 9999; omega) hL).trans (frac_place num den)
  clear h1 h2
  match l with
  | [] =>
    have HF : Hid (HN.valid ⟨n, [], num, den⟩ = fracB num den) := HF0 [] rfl
    clear HF0
    by_cases hn0 : num = 0
    · subst hn0
      by_cases hd0 : den = 0
      · subst hd0
        have HV : Hid (HN.valid ⟨n, [], 0, 0⟩ = true) := HF.out.trans rfl
        clear HF
        go_enter Tryd.func20, Tryd.ntmps20
        unfold hval
        go_wp2_with fail
        go_ret
        exact ⟨ret_bool HV.out.symm, HB0.out⟩
      · have f1 : (den == 0) = false := by rw [beq_eq_false_iff_ne]; exact hd0
        have HV : Hid (HN.valid ⟨n, [], 0, den⟩ = false) := HF.out.trans (by unfold fracB; simp [hd0])
        clear HF hd0
        go_enter Tryd.func20, Tryd.ntmps20
        unfold hval
        go_wp2_with fail
        go_ret
        exact ⟨ret_bool HV.out.symm, HB0.out⟩
    · have f1 : (num == 0) = false := by rw [beq_eq_false_iff_ne]; exact hn0
      by_cases hn1 : 1 ≤ num
      · have f2 : decide (1 ≤ num) = true := decide_eq_true hn1
        by_cases hnd : num < den
        · have f3 : decide (num < den) = true := decide_eq_true hnd
          by_cases hd9 : den ≤ 9
          · have f4 : decide (den ≤ 9) = true := decide_eq_true hd9
            have HV : Hid (HN.valid ⟨n, [], num, den⟩ = !commonB num.toNat den.toNat) := HF.out.trans (by unfold fracB; rw [decide_eq_false hn0, f2, f3, f4]; simp)
            have CC := fun w => rcommon_any num.toNat den.toNat (by omega) (by omega) (by omega) w
            rw [show ((num.toNat : Nat) : Int) = num by omega, show ((den.toNat : Nat) : Int) = den by omega] at CC
            generalize commonB num.toNat den.toNat = cb at *
            clear HF hn0 hn1 hnd hd9
            go_enter Tryd.func20, Tryd.ntmps20
            unfold hval
            go_wp2_with fail
            refine (CC _).mono ?_
            rintro e w1 ⟨rfl, rfl⟩
            go_wp2_with fail
            go_ret
            exact ⟨ret_bool HV.out.symm, HB0.out⟩
          · have f4 : decide (den ≤ 9) = false := decide_eq_false hd9
            have HV : Hid (HN.valid ⟨n, [], num, den⟩ = false) := HF.out.trans (by unfold fracB; rw [decide_eq_false hn0, f4]; simp)
            clear HF hn0 hn1 hnd hd9
            go_enter Tryd.func20, Tryd.ntmps20
            unfold hval
            go_wp2_with fail
            go_ret
            exact ⟨ret_bool HV.out.symm, HB0.out⟩
        · have f3 : decide (num < den) = false := decide_eq_false hnd
          have HV : Hid (HN.valid ⟨n, [], num, den⟩ = false) := HF.out.trans (by unfold fracB; rw [decide_eq_false hn0, f3]; simp)
          clear HF hn0 hn1 hnd
          go_enter Tryd.func20, Tryd.ntmps20
          unfold hval
          go_wp2_with fail
          go_ret
          exact ⟨ret_bool HV.out.symm, HB0.out⟩
      · have f2 : decide (1 ≤ num) = false := decide_eq_false hn1
        have HV : Hid (HN.valid ⟨n, [], num, den⟩ = false) := HF.out.trans (by unfold fracB; rw [decide_eq_false hn0, f2]; simp)
        clear HF hn0 hn1
        go_enter Tryd.func20, Tryd.ntmps20
        unfold hval
        go_wp2_with fail
        go_ret
        exact ⟨ret_bool HV.out.symm, HB0.out⟩
  | [c] =>
    have b1 := less_one c 97
    have b2 := less_one c 122
    rw [show (97 : UInt8).toNat = 97 from rfl] at b1
    rw [show (122 : UInt8).toNat = 122 from rfl] at b2
    by_cases c1 : c.toNat < 97
    · have HV : Hid (HN.valid ⟨n, [c], num, den⟩ = false) := valid_f3 (h := ⟨n, [c], num, den⟩) (by rw [← Bool.not_eq_true]; intro h; rcases (letterB_iff _).1 h with h | ⟨d, h, g1, g2⟩; cases h; injection h with h _; subst h; omega)
      rw [decide_eq_true c1] at b1
      clear c1 HF0 b2
      go_enter Tryd.func20, Tryd.ntmps20
      unfold hval
      go_wp2_with fail
      go_ret
      exact ⟨ret_bool HV.out.symm, HB0.out⟩
    rw [decide_eq_false c1] at b1
    by_cases c2 : 122 < c.toNat
    · have HV : Hid (HN.valid ⟨n, [c], num, den⟩ = false) := valid_f3 (h := ⟨n, [c], num, den⟩) (by rw [← Bool.not_eq_true]; intro h; rcases (letterB_iff _).1 h with h | ⟨d, h, g1, g2⟩; cases h; injection h with h _; subst h; omega)
      rw [decide_eq_false (by omega)] at b2
      have b3 : (c == 122) = false := by rw [beq_eq_false_iff_ne]; intro h; rw [h] at c2; simp at c2
      clear c1 c2 HF0
      go_enter Tryd.func20, Tryd.ntmps20
      unfold hval
      go_wp2_with fail
      go_ret
      exact ⟨ret_bool HV.out.symm, HB0.out⟩
    have HF : Hid (HN.valid ⟨n, [c], num, den⟩ = fracB num den) := HF0 [c] ((letterB_iff _).2 (.inr ⟨c, rfl, by omega, by omega⟩))
    have b4 : (!Op.bytesLess [c] [122] && !c == 122) = false := by
      by_cases hc : c.toNat < 122
      · rw [b2, decide_eq_true hc]; rfl
      · have : c = 122 := UInt8.toNat_inj.1 (by simp; omega)
        rw [this]; rfl
    have b2' := b2
    clear b2 c1 c2 HF0
    by_cases hc : c = 122
    · subst hc
      clear b4 b2' b1
      by_cases hn0 : num = 0
      · subst hn0
        by_cases hd0 : den = 0
        · subst hd0
          have HV : Hid (HN.valid ⟨n, [122], 0, 0⟩ = true) := HF.out.trans rfl
          clear HF
          go_enter Tryd.func20, Tryd.ntmps20
          unfold hval
          go_wp2_with fail
          go_ret
          exact ⟨ret_bool HV.out.symm, HB0.out⟩
        · have f1 : (den == 0) = false := by rw [beq_eq_false_iff_ne]; exact hd0
          have HV : Hid (HN.valid ⟨n, [122], 0, den⟩ = false) := HF.out.trans (by unfold fracB; simp [hd0])
          clear HF hd0
          go_enter Tryd.func20, Tryd.ntmps20
          unfold hval
          go_wp2_with fail
          go_ret
          exact ⟨ret_bool HV.out.symm, HB0.out⟩
      · have f1 : (num == 0) = false := by rw [beq_eq_false_iff_ne]; exact hn0
        by_cases hn1 : 1 ≤ num
        · have f2 : decide (1 ≤ num) = true := decide_eq_true hn1
          by_cases hnd : num < den
          · have f3 : decide (num < den) = true := decide_eq_true hnd
            by_cases hd9 : den ≤ 9
            · have f4 : decide (den ≤ 9) = true := decide_eq_true hd9
              have HV : Hid (HN.valid ⟨n, [122], num, den⟩ = !commonB num.toNat den.toNat) := HF.out.trans (by unfold fracB; rw [decide_eq_false hn0, f2, f3, f4]; simp)
              have CC := fun w => rcommon_any num.toNat den.toNat (by omega) (by omega) (by omega) w
              rw [show ((num.toNat : Nat) : Int) = num by omega, show ((den.toNat : Nat) : Int) = den by omega] at CC
              generalize commonB num.toNat den.toNat = cb at *
              clear HF hn0 hn1 hnd hd9
              go_enter Tryd.func20, Tryd.ntmps20
              unfold hval
              go_wp2_with fail
              refine (CC _).mono ?_
              rintro e w1 ⟨rfl, rfl⟩
              go_wp2_with fail
              go_ret
              exact ⟨ret_bool HV.out.symm, HB0.out⟩
            · have f4 : decide (den ≤ 9) = false := decide_eq_false hd9
              have HV : Hid (HN.valid ⟨n, [122], num, den⟩ = false) := HF.out.trans (by unfold fracB; rw [decide_eq_false hn0, f4]; simp)
              clear HF hn0 hn1 hnd hd9
              go_enter Tryd.func20, Tryd.ntmps20
              unfold hval
              go_wp2_with fail
              go_ret
              exact ⟨ret_bool HV.out.symm, HB0.out⟩
          · have f3 : decide (num < den) = false := decide_eq_false hnd
            have HV : Hid (HN.valid ⟨n, [122], num, den⟩ = false) := HF.out.trans (by unfold fracB; rw [decide_eq_false hn0, f3]; simp)
            clear HF hn0 hn1 hnd
            go_enter Tryd.func20, Tryd.ntmps20
            unfold hval
            go_wp2_with fail
            go_ret
            exact ⟨ret_bool HV.out.symm, HB0.out⟩
        · have f2 : decide (1 ≤ num) = false := decide_eq_false hn1
          have HV : Hid (HN.valid ⟨n, [122], num, den⟩ = false) := HF.out.trans (by unfold fracB; rw [decide_eq_false hn0, f2]; simp)
          clear HF hn0 hn1
          go_enter Tryd.func20, Tryd.ntmps20
          unfold hval
          go_wp2_with fail
          go_ret
          exact ⟨ret_bool HV.out.symm, HB0.out⟩
    · have b2 : Op.bytesLess [c] [122] = true := by
        rw [b2']
        refine decide_eq_true ?_
        have : c.toNat ≠ 122 := fun h => hc (UInt8.toNat_inj.1 h)
        cases hb : decide (c.toNat < 122)
        · exfalso
          rw [b2', hb] at b4
          simp [hc] at b4
        · exact of_decide_eq_true hb
      clear b4 b2' hc
      by_cases hn0 : num = 0
      · subst hn0
        by_cases hd0 : den = 0
        · subst hd0
          have HV : Hid (HN.valid ⟨n, [c], 0, 0⟩ = true) := HF.out.trans rfl
          clear HF
          go_enter Tryd.func20, Tryd.ntmps20
          unfold hval
          go_wp2_with fail
          go_ret
          exact ⟨ret_bool HV.out.symm, HB0.out⟩
        · have f1 : (den == 0) = false := by rw [beq_eq_false_iff_ne]; exact hd0
          have HV : Hid (HN.valid ⟨n, [c], 0, den⟩ = false) := HF.out.trans (by unfold fracB; simp [hd0])
          clear HF hd0
          go_enter Tryd.func20, Tryd.ntmps20
          unfold hval
          go_wp2_with fail
          go_ret
          exact ⟨ret_bool HV.out.symm, HB0.out⟩
      · have f1 : (num == 0) = false := by rw [beq_eq_false_iff_ne]; exact hn0
        by_cases hn1 : 1 ≤ num
        · have f2 : decide (1 ≤ num) = true := decide_eq_true hn1
          by_cases hnd : num < den
          · have f3 : decide (num < den) = true := decide_eq_true hnd
            by_cases hd9 : den ≤ 9
            · have f4 : decide (den ≤ 9) = true := decide_eq_true hd9
              have HV : Hid (HN.valid ⟨n, [c], num, den⟩ = !commonB num.toNat den.toNat) := HF.out.trans (by unfold fracB; rw [decide_eq_false hn0, f2, f3, f4]; simp)
              have CC := fun w => rcommon_any num.toNat den.toNat (by omega) (by omega) (by omega) w
              rw [show ((num.toNat : Nat) : Int) = num by omega, show ((den.toNat : Nat) : Int) = den by omega] at CC
              generalize commonB num.toNat den.toNat = cb at *
              clear HF hn0 hn1 hnd hd9
              go_enter Tryd.func20, Tryd.ntmps20
              unfold hval
              go_wp2_with fail
              refine (CC _).mono ?_
              rintro e w1 ⟨rfl, rfl⟩
              go_wp2_with fail
              go_ret
              exact ⟨ret_bool HV.out.symm, HB0.out⟩
            · have f4 : decide (den ≤ 9) = false := decide_eq_false hd9
              have HV : Hid (HN.valid ⟨n, [c], num, den⟩ = false) := HF.out.trans (by unfold fracB; rw [decide_eq_false hn0, f4]; simp)
              clear HF hn0 hn1 hnd hd9
              go_enter Tryd.func20, Tryd.ntmps20
              unfold hval
              go_wp2_with fail
              go_ret
              exact ⟨ret_bool HV.out.symm, HB0.out⟩
          · have f3 : decide (num < den) = false := decide_eq_false hnd
            have HV : Hid (HN.valid ⟨n, [c], num, den⟩ = false) := HF.out.trans (by unfold fracB; rw [decide_eq_false hn0, f3]; simp)
            clear HF hn0 hn1 hnd
            go_enter Tryd.func20, Tryd.ntmps20
            unfold hval
            go_wp2_with fail
            go_ret
            exact ⟨ret_bool HV.out.symm, HB0.out⟩
        · have f2 : decide (1 ≤ num) = false := decide_eq_false hn1
          have HV : Hid (HN.valid ⟨n, [c], num, den⟩ = false) := HF.out.trans (by unfold fracB; rw [decide_eq_false hn0, f2]; simp)
          clear HF hn0 hn1
          go_enter Tryd.func20, Tryd.ntmps20
          unfold hval
          go_wp2_with fail
          go_ret
          exact ⟨ret_bool HV.out.symm, HB0.out⟩
  | c :: d :: r =>
    have hz : (ByteArray.mk (c :: d :: r).toArray).size = (c :: d :: r).length := bs_size _
    have e3 : decide ((1 : Int) < ((c :: d :: r).length : Int)) = true := decide_eq_true (by simp only [List.length_cons]; omega)
    have HV : Hid (HN.valid ⟨n, c :: d :: r, num, den⟩ = false) := valid_f3 (h := ⟨n, c :: d :: r, num, den⟩) rfl
    clear HF0
    generalize c :: d :: r = l at *
    go_enter Tryd.func20, Tryd.ntmps20
    unfold hval
    go_wp2_with fail
    go_ret
    exact ⟨ret_bool HV.out.symm, HB0.out⟩
end Go.Proofs.YtabphhclnboknaaDoor
