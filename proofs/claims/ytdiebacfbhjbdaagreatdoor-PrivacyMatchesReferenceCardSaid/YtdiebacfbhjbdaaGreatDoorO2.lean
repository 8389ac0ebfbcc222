/- Walks of the statements: PrivacyNothingLeft. -/
import Derived.Test.YtdiebacfbhjbdaaGreatDoorNX
set_option linter.unusedVariables false
set_option linter.unusedSimpArgs false
namespace Go.Proofs.YtdiebacfbhjbdaaGreatDoor
open Go.RowKit

theorem few_facts {log : List Ln} (h : fewG log = true) : log.length ≤ 30 ∧ (∀ l ∈ log, l.fit) ∧ ∀ l ∈ log, l.d.length ≤ 100000000000 := by
  unfold fewG at h
  simp only [Bool.and_eq_true, decide_eq_true_eq, List.all_eq_true] at h
  obtain ⟨h1, h2⟩ := h
  rw [List.take_of_length_le h2] at h1
  have h3 : ∀ l ∈ log, l.p.length ≤ 500 ∧ l.t.length ≤ 500 ∧ l.s.length ≤ 500 ∧ l.d.length ≤ 500 := fun l hl => by
    have := h1 l hl
    unfold smL at this
    simp only [Bool.and_eq_true, decide_eq_true_eq] at this
    exact ⟨this.1.1.1, this.1.1.2, this.1.2, this.2⟩
  refine ⟨h2, fun l hl => ?_, fun l hl => ?_⟩
  · obtain ⟨a, b, c, d⟩ := h3 l hl
    exact ⟨by omega, by omega, by omega, by omega⟩
  · have := (h3 l hl).2.2.2; omega
theorem sh_facts {ts : List (List UInt8)} (h : shT ts = true) : ∀ t ∈ ts, t.length ≤ 140737488355328 := fun t ht => by
  unfold shT at h
  have := List.all_eq_true.1 h t ht
  simp only [decide_eq_true_eq] at this
  omega
theorem fit_erase {log : List Ln} (h : ∀ l ∈ log, l.fit) (q : List UInt8) : ∀ l ∈ eraseP log q, l.fit := fun l hl => by
  obtain ⟨x, hx, rfl⟩ := List.mem_map.1 hl
  have := h x hx
  split
  · exact ⟨Nat.zero_le _, Nat.zero_le _, Nat.zero_le _, this.d⟩
  · exact this
theorem d_erase {log : List Ln} (h : ∀ l ∈ log, l.d.length ≤ 100000000000) (q : List UInt8) : ∀ l ∈ eraseP log q, l.d.length ≤ 100000000000 := fun l hl => by
  obtain ⟨x, hx, rfl⟩ := List.mem_map.1 hl
  have := h x hx
  split
  · exact this
  · exact this
theorem okA_erase {log : List Ln} {p q : List UInt8} (h : okA log p = true) : okA (eraseP log p) q = isNm q ∧ okA log q = isNm q := by
  unfold okA at h ⊢
  simp only [Bool.and_eq_true] at h
  rw [valid_erase h.1, h.1]
  exact ⟨rfl, rfl⟩
set_option maxRecDepth 100000 in
set_option maxHeartbeats 1000000 in
theorem nothing_law (log : List Ln) (hl0 : log.length ≤ 8796093022208) (p q : List UInt8) (v : Value) (w : World) (hv : LnsAt w v log) (hg : Glob w) :
    Calls Tryz.prog 4 #[v, .string (bs p), .string (bs q)] w fun e w' => e = .returned (.bool true) ∧ Below w.heap.size w w' := by
  have HB0 := hide (Below.refl w.heap.size w)
  have HS0 := hide hv
  have HG := hide hg
  clear hv hg
  go_enter Tryz.func4, Tryz.ntmps4
  go_wp2_with fail
  have C1 := head_any w HG.out
  refine C1.mono ?_
  rintro e w1 ⟨rfl, hb⟩
  have HB1 := hide (below_to HB0.out (Nat.le_refl _) hb)
  have HS1 := hide (HS0.out.to hb)
  clear hb C1 HB0 HS0
  go_wp2_with fail
  have HB2 := hide (below_alloc HB1.out (Nat.le_refl _) (.cells #[.string (bs p), .string (bs q)] 9))
  have HS2 := hide (HS1.out.to (below_one w1 (.cells #[.string (bs p), .string (bs q)] 9)))
  clear HB1 HS1
  cases hfew : shT [p, q] && fewG log with
  | false =>
    have CF : Calls Tryz.prog 12 #[v, .slice (some ⟨w1.heap.size, 0, none⟩) 2 2] (w1.alloc (.cells #[.string (bs p), .string (bs q)] 9)) fun e w' => e = .returned (.bool (shT [p, q] && fewG log)) ∧ Below (w1.alloc (.cells #[.string (bs p), .string (bs q)] 9)).heap.size (w1.alloc (.cells #[.string (bs p), .string (bs q)] 9)) w' := few_any log (Nat.le_trans hl0 (by decide)) [p, q] (by simp) v _ _ HS2.out (rows_new w1 1 9 ([p, q].map strV) (by simp [strV]) _ rfl 2 rfl)
    rw [hfew] at CF
    clear hfew hl0
    have C3 := CF
    refine C3.mono ?_
    rintro e w3 ⟨rfl, hb⟩
    have HB3 := hide (below_to HB2.out (Nat.le_refl _) hb)
    have HS3 := hide (HS2.out.to hb)
    clear hb C3 HB2 HS2
    go_wp2_with fail
    go_ret
    exact ⟨rfl, HB3.out⟩
  | true =>
    have CF : Calls Tryz.prog 12 #[v, .slice (some ⟨w1.heap.size, 0, none⟩) 2 2] (w1.alloc (.cells #[.string (bs p), .string (bs q)] 9)) fun e w' => e = .returned (.bool (shT [p, q] && fewG log)) ∧ Below (w1.alloc (.cells #[.string (bs p), .string (bs q)] 9)).heap.size (w1.alloc (.cells #[.string (bs p), .string (bs q)] 9)) w' := few_any log (Nat.le_trans hl0 (by decide)) [p, q] (by simp) v _ _ HS2.out (rows_new w1 1 9 ([p, q].map strV) (by simp [strV]) _ rfl 2 rfl)
    rw [hfew] at CF
    simp only [Bool.and_eq_true] at hfew
    obtain ⟨hl, hf0, hd0⟩ := few_facts hfew.2
    have lp := sh_facts hfew.1 p (by simp)
    have lq := sh_facts hfew.1 q (by simp)
    have HF := hide hf0
    have HD := hide hd0
    clear hfew hl0 hf0 hd0
    have C3 := CF
    refine C3.mono ?_
    rintro e w3 ⟨rfl, hb⟩
    have HB3 := hide (below_to HB2.out (Nat.le_refl _) hb)
    have HS3 := hide (HS2.out.to hb)
    clear hb C3 HB2 HS2
    go_wp2_with fail
    have CE := Erase_any log HF.out (by omega) p lp v w3 HS3.out (HG.out.to HB3.out)
    cases hok : okA log p with
    | false =>
      unfold EraseR hitsV eraseV at CE
      rw [hok] at CE
      clear hok
      have C4 := CE
      refine C4.mono ?_
      rintro e w4 ⟨v1, rfl, hHE, hb⟩
      have HB4 := hide (below_to HB3.out (Nat.le_refl _) hb)
      have HS4 := hide (HS3.out.to hb)
      have HE4 := hide hHE
      clear hb C4 HB3 HS3 hHE
      go_wp2_with fail
      go_ret
      exact ⟨rfl, HB4.out⟩
    | true =>
      unfold EraseR hitsV eraseV at CE
      rw [hok] at CE
      have HOK := hide hok
      clear hok
      simp only [if_true] at CE
      have C4 := CE
      refine C4.mono ?_
      rintro e w4 ⟨v1, rfl, hHE, hb⟩
      have HB4 := hide (below_to HB3.out (Nat.le_refl _) hb)
      have HS4 := hide (HS3.out.to hb)
      have HE4 := hide hHE
      clear hb C4 HB3 HS3 hHE
      obtain ⟨le, HLE⟩ : ∃ l, Hid (eraseP log p = l) := ⟨_, rfl⟩
      rw [HLE.out] at HE4
      have HNM : Hid (isNm p = true) := by
        have := HOK.out
        unfold okA at this
        simp only [Bool.and_eq_true] at this
        exact this.2
      have HLL : le.length ≤ 30 := by rw [← HLE.out, erase_len]; exact hl
      have HNO : Hid (∀ x ∈ le, x.p ≠ p) := by show ∀ _, _; rw [← HLE.out]; exact erase_none HNM.out log
      have HF2 : Hid (∀ l ∈ le, l.fit) := by rw [← HLE.out]; exact fit_erase HF.out p
      have HK1 : Hid (okA le p = true) := by show _ = _; rw [← HLE.out, (okA_erase HOK.out).1]; exact HNM.out
      have HK2 : Hid (okA le q = okA log q) := by show _ = _; rw [← HLE.out, (okA_erase HOK.out).1, (okA_erase (q := q) HOK.out).2]
      have HA1 : Hid (aboutV le p = []) := by show _ = _; unfold aboutV; rw [HK1.out, if_pos rfl, ← HLE.out]; exact about_none HNM.out log
      have HA2 : Hid (p ≠ q → aboutV le q = aboutV log q) := fun hpq => by
        unfold aboutV
        rw [HK2.out]
        cases hh : okA log q with
        | false => rfl
        | true =>
          rw [if_pos rfl, if_pos rfl, ← HLE.out]
          refine about_other ?_ hpq log
          unfold okA at hh
          simp only [Bool.and_eq_true] at hh
          exact hh.2
      obtain ⟨A1, c1, rfl⟩ := HE4.out.slice
      go_wp2_with fail
      go_loopw [11] (fun i wr => ∃ k : Nat, i = .int .i64 (k : Int) ∧ k ≤ le.length ∧ wr = w4) (fun i _ => le.length - (intOf i).toNat)
      case atStart => exact ⟨0, rfl, by omega, rfl⟩
      case round =>
        obtain ⟨k, rfl, hk, rfl⟩ := hrel
        by_cases hlt : k < le.length
        · have e1 : decide ((k : Int) < (le.length : Int)) = true := decide_eq_true (by omega)
          obtain ⟨x, hx⟩ : ∃ x, le[k]? = some x := ⟨_, List.getElem?_eq_getElem hlt⟩
          obtain ⟨a, rfl, ha, c0, c1, c2, c3⟩ := HE4.out.at_ hx
          have e2 : ((bs x.p).toList == (bs p).toList) = false := by rw [beq_eq_false_iff_ne, bs_toList, bs_toList]; exact HNO.out x (List.mem_of_getElem? hx)
          clear hx
          go_wp2_with fail
          refine ⟨⟨k + 1, by go_num, by omega, trivial⟩, ?_⟩
          simp [intOf]; omega
        · obtain rfl : k = le.length := by omega
          have e1 : decide ((le.length : Int) < (le.length : Int)) = false := by simp
          go_wp2_with fail
          have CA1 := About_any le HF2.out (by omega) p lp (.slice A1 le.length c1) wr HE4.out (HG.out.to HB4.out)
          unfold AboutR at CA1
          rw [HK1.out, HA1.out] at CA1
          have C5 := CA1
          refine C5.mono ?_
          rintro e w5 ⟨va, rfl, hHA, hb⟩
          have HB5 := hide (below_to HB4.out (Nat.le_refl _) hb)
          have HS5 := hide (HS4.out.to hb)
          have HE5 := hide (HE4.out.to hb)
          have HA5 := hide hHA
          clear hb C5 HB4 HS4 HE4 hHA
          obtain ⟨Aa, ca, rfl, _⟩ := HA5.out.slice
          go_wp2_with fail
          have CA2 := About_any log HF.out (by omega) q lq v w5 HS5.out (HG.out.to HB5.out)
          unfold AboutR at CA2
          have C6 := CA2
          refine C6.mono ?_
          rintro e w6 ⟨vb, rfl, hHBb, hb⟩
          have HB6 := hide (below_to HB5.out (Nat.le_refl _) hb)
          have HS6 := hide (HS5.out.to hb)
          have HE6 := hide (HE5.out.to hb)
          have HA6 := hide (HA5.out.to hb)
          have HBb6 := hide hHBb
          clear hb C6 HB5 HS5 HE5 HA5 hHBb
          go_wp2_with fail
          have CA3 := About_any le HF2.out (by omega) q lq (.slice A1 le.length c1) w6 HE6.out (HG.out.to HB6.out)
          unfold AboutR at CA3
          rw [HK2.out] at CA3
          have C7 := CA3
          refine C7.mono ?_
          rintro e w7 ⟨vc, rfl, hHC, hb⟩
          have HB7 := hide (below_to HB6.out (Nat.le_refl _) hb)
          have HS7 := hide (HS6.out.to hb)
          have HE7 := hide (HE6.out.to hb)
          have HA7 := hide (HA6.out.to hb)
          have HBb7 := hide (HBb6.out.to hb)
          have HC7 := hide hHC
          clear hb C7 HB6 HS6 HE6 HA6 HBb6 hHC
          have eqe : (errE (okA log q) == errE (okA log q)) = true := by simp
          generalize errE (okA log q) = eq at *
          by_cases hpq : p = q
          · have e3 : ((bs p).toList == (bs q).toList) = true := by rw [hpq]; simp
            clear hpq
            go_wp2_with fail
            go_ret
            exact ⟨rfl, HB7.out⟩
          · have e3 : ((bs p).toList == (bs q).toList) = false := by rw [beq_eq_false_iff_ne, bs_toList, bs_toList]; exact hpq
            have HC := hide HC7.out
            rw [HA2.out hpq] at HC
            have hlen : (aboutV log q).length ≤ 1000000000 := by
              unfold aboutV aboutP
              split
              · rw [List.length_map]; exact Nat.le_trans (List.length_filter_le _ _) (by omega)
              · simp
            have CT := Texts_any (aboutV log q) (aboutV log q) hlen hlen vb vc w7 HBb7.out HC.out
            rw [decide_eq_true rfl] at CT
            clear hpq hlen
            go_wp2_with fail
            have C8 := CT
            refine C8.mono ?_
            rintro e w8 ⟨rfl, hb⟩
            have HB8 := hide (below_to HB7.out (Nat.le_refl _) hb)
            clear hb C8 HB7
            go_wp2_with fail
            go_ret
            exact ⟨rfl, HB8.out⟩
end Go.Proofs.YtdiebacfbhjbdaaGreatDoor
