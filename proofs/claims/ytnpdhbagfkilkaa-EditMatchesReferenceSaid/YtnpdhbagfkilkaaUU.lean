/- Several texts as one, in build order. -/
import Derived.Test.YtnpdhbagfkilkaaW9
import Derived.Deep.DeepCutAuto
import Derived.BigQuiet
import Derived.Test.YtnpdhbagfkilkaaPlain5
import Derived.Test.YtnpdhbagfkilkaaW6
import Derived.Test.YtnpdhbagfkilkaaCl2
import Derived.Test.YtnpdhbagfkilkaaBs
import Derived.Test.YtnpdhbagfkilkaaW7
import Derived.Test.YtnpdhbagfkilkaaW1
import Derived.Test.YtnpdhbagfkilkaaW10
/- The reference of layer 18: weight, Valid, change. -/
set_option linter.unusedVariables false
set_option linter.unusedSimpArgs false
namespace Go.Proofs.Ytnpdhbagfkilkaa
open Go.RowKit

theorem below_one8 (w : World) (o : Obj) : Below w.heap.size w (w.alloc o) := (Below.refl _ _).alloc (Nat.le_refl _) o
theorem ret_bool8 {a b : Bool} (h : a = b) : Ending.returned (.bool a) = .returned (.bool b) := by rw [h]
theorem rweight_any (n : Int) (w : World) : Calls Try.prog 36 #[.int .i64 n] w fun e w' => e = .returned (.bool (Wt.numOk n)) ∧ w' = w := by
  by_cases h0 : 0 ≤ n
  · have e1 : decide ((0 : Int) ≤ n) = true := decide_eq_true h0
    by_cases h1 : n ≤ 1000
    · have e2 : decide (n ≤ (1000 : Int)) = true := decide_eq_true h1
      have HF : Hid (Wt.numOk n = true) := by show _ = _; unfold Wt.numOk; rw [e1, e2]; rfl
      clear h0 h1
      go_enter Try.func36, Try.ntmps36
      go_wp2_with fail
      go_ret
      exact ⟨ret_bool8 HF.out.symm, rfl⟩
    · have e2 : decide (n ≤ (1000 : Int)) = false := decide_eq_false h1
      have HF : Hid (Wt.numOk n = false) := by show _ = _; unfold Wt.numOk; rw [e1, e2]; rfl
      clear h0 h1
      go_enter Try.func36, Try.ntmps36
      go_wp2_with fail
      go_ret
      exact ⟨ret_bool8 HF.out.symm, rfl⟩
  · have e1 : decide ((0 : Int) ≤ n) = false := decide_eq_false h0
    have HF : Hid (Wt.numOk n = false) := by show _ = _; unfold Wt.numOk; rw [e1]; rfl
    clear h0
    go_enter Try.func36, Try.ntmps36
    go_wp2_with fail
    go_ret
    exact ⟨ret_bool8 HF.out.symm, rfl⟩
/-- the first k of the near ones are well -/
structure NearK (W : Wt) (k : Nat) : Prop where
  ok : ∀ i (h : i < W.near.length), i < k → W.nearOk W.near[i] = true
  ne : ∀ i j (h : i < W.near.length) (h' : j < W.near.length), j < i → i < k → Wt.pr W.near[j] ≠ Wt.pr W.near[i]
theorem NearK.zero (W : Wt) : NearK W 0 := ⟨fun i _ h => absurd h (Nat.not_lt_zero _), fun i j _ _ _ h => absurd h (Nat.not_lt_zero _)⟩
theorem NearK.succ {W : Wt} {k : Nat} (h : NearK W k) (hk : k < W.near.length) (h1 : W.nearOk W.near[k] = true) (h2 : ∀ j (h' : j < W.near.length), j < k → Wt.pr W.near[j] ≠ Wt.pr W.near[k]) : NearK W (k + 1) := by
  refine ⟨fun i hi hik => ?_, fun i j hi hj hji hik => ?_⟩
  · by_cases e : i = k
    · subst e; exact h1
    · exact h.ok i hi (by omega)
  · by_cases e : i = k
    · subst e; exact h2 j hj hji
    · exact h.ne i j hi hj hji (by omega)
theorem NearK.valid {W : Wt} (h : NearK W W.near.length) (hn : ∀ j, j < 4 → 0 ≤ W.num j ∧ W.num j ≤ 1000) (hl : W.near.length ≤ 200) : W.valid = true := by
  rw [Wt.good_all hn (fun n hn => by
    obtain ⟨i, hi, rfl⟩ := List.getElem_of_mem hn
    exact h.ok i hi hi) (by
    rw [List.pairwise_iff_getElem]
    intro i j hi hj hij
    rw [List.length_map] at hi hj
    simp only [List.getElem_map]
    exact h.ne j i hj hi hij hj)]
  exact decide_eq_true hl
theorem bad_len {W : Wt} (h : 200 < W.near.length) : W.valid = false := by
  rw [← Bool.not_eq_true]
  intro hv
  have := Wt.valid_len hv
  omega
theorem num_of {W : Wt} (h0 : Wt.numOk W.ins = true) (h1 : Wt.numOk W.del = true) (h2 : Wt.numOk W.chg = true) (h3 : Wt.numOk W.swp = true) : ∀ j, j < 4 → 0 ≤ W.num j ∧ W.num j ≤ 1000 := by
  simp only [Wt.numOk, Bool.and_eq_true, decide_eq_true_eq] at h0 h1 h2 h3
  intro j hj
  match j, hj with
  | 0, _ | 1, _ | 2, _ | 3, _ => simp only [Wt.num]; omega
theorem bad_numB {W : Wt} (h : Wt.numOk W.ins = false ∨ Wt.numOk W.del = false ∨ Wt.numOk W.chg = false ∨ Wt.numOk W.swp = false) : W.valid = false := by
  unfold Wt.valid
  rcases h with h | h | h | h <;> rw [h] <;> simp
theorem near_five {W : Wt} {n1 n2 n3 : Int} : W.nearOk (n1, n2, n3) = (decide (32 ≤ n1) && decide (n2 ≤ 126) && decide (n1 < n2) && decide (0 ≤ n3) && decide (n3 ≤ W.chg)) := rfl
set_option maxRecDepth 100000 in
set_option maxHeartbeats 8000000 in
theorem rvalid8_any (W : Wt) (A : Option Addr) (n c X : Nat) (w : World) (hN : Near w X A n W.near) (hX0 : X ≤ w.heap.size) (hn : n ≤ 140737488355328) :
    Calls Try.prog 21 #[wval W A n c] w fun e w' => e = .returned (.bool W.valid) ∧ Below w.heap.size w w' := by
  have HN := hide hN
  have hlen : W.near.length = n := hN.1
  have HLN := hide hlen
  have HB := hide (Box.start w W A n c)
  clear hN
  go_enter Try.func21, Try.ntmps21
  unfold wval
  go_upto_region 1 with fail
  generalize w.alloc (.cells #[.int .i64 W.ins, .int .i64 W.del, .int .i64 W.chg, .int .i64 W.swp, .slice A n c] 24) = w1 at *
  obtain ⟨d0, d1, d2, d3, d4⟩ := HB.out.facts
  have CW0 := rweight_any W.ins w1
  have CW1 := rweight_any W.del w1
  have CW2 := rweight_any W.chg w1
  have CW3 := rweight_any W.swp w1
  cases hv0 : Wt.numOk W.ins with
  | false =>
    rw [hv0] at CW0
    have HF := hide (bad_numB (W := W) (.inl hv0))
    clear hv0
    go_wp2_with (first | ((with_reducible refine (CW0).mono ?_); rintro e w' ⟨rfl, hw⟩; have hw := hw.symm; subst hw) | ((with_reducible refine (CW1).mono ?_); rintro e w' ⟨rfl, hw⟩; have hw := hw.symm; subst hw) | ((with_reducible refine (CW2).mono ?_); rintro e w' ⟨rfl, hw⟩; have hw := hw.symm; subst hw) | ((with_reducible refine (CW3).mono ?_); rintro e w' ⟨rfl, hw⟩; have hw := hw.symm; subst hw))
    go_ret
    exact ⟨ret_bool8 HF.out.symm, HB.out.bel⟩
  | true =>
    rw [hv0] at CW0
    have HV0 := hide hv0
    clear hv0
    cases hv1 : Wt.numOk W.del with
    | false =>
      rw [hv1] at CW1
      have HF := hide (bad_numB (W := W) (.inr (.inl hv1)))
      clear hv1
      go_wp2_with (first | ((with_reducible refine (CW0).mono ?_); rintro e w' ⟨rfl, hw⟩; have hw := hw.symm; subst hw) | ((with_reducible refine (CW1).mono ?_); rintro e w' ⟨rfl, hw⟩; have hw := hw.symm; subst hw) | ((with_reducible refine (CW2).mono ?_); rintro e w' ⟨rfl, hw⟩; have hw := hw.symm; subst hw) | ((with_reducible refine (CW3).mono ?_); rintro e w' ⟨rfl, hw⟩; have hw := hw.symm; subst hw))
      go_ret
      exact ⟨ret_bool8 HF.out.symm, HB.out.bel⟩
    | true =>
      rw [hv1] at CW1
      have HV1 := hide hv1
      clear hv1
      cases hv2 : Wt.numOk W.chg with
      | false =>
        rw [hv2] at CW2
        have HF := hide (bad_numB (W := W) (.inr (.inr (.inl hv2))))
        clear hv2
        go_wp2_with (first | ((with_reducible refine (CW0).mono ?_); rintro e w' ⟨rfl, hw⟩; have hw := hw.symm; subst hw) | ((with_reducible refine (CW1).mono ?_); rintro e w' ⟨rfl, hw⟩; have hw := hw.symm; subst hw) | ((with_reducible refine (CW2).mono ?_); rintro e w' ⟨rfl, hw⟩; have hw := hw.symm; subst hw) | ((with_reducible refine (CW3).mono ?_); rintro e w' ⟨rfl, hw⟩; have hw := hw.symm; subst hw))
        go_ret
        exact ⟨ret_bool8 HF.out.symm, HB.out.bel⟩
      | true =>
        rw [hv2] at CW2
        have HV2 := hide hv2
        clear hv2
        cases hv3 : Wt.numOk W.swp with
        | false =>
          rw [hv3] at CW3
          have HF := hide (bad_numB (W := W) (.inr (.inr (.inr (hv3)))))
          clear hv3
          go_wp2_with (first | ((with_reducible refine (CW0).mono ?_); rintro e w' ⟨rfl, hw⟩; have hw := hw.symm; subst hw) | ((with_reducible refine (CW1).mono ?_); rintro e w' ⟨rfl, hw⟩; have hw := hw.symm; subst hw) | ((with_reducible refine (CW2).mono ?_); rintro e w' ⟨rfl, hw⟩; have hw := hw.symm; subst hw) | ((with_reducible refine (CW3).mono ?_); rintro e w' ⟨rfl, hw⟩; have hw := hw.symm; subst hw))
          go_ret
          exact ⟨ret_bool8 HF.out.symm, HB.out.bel⟩
        | true =>
          rw [hv3] at CW3
          have HV3 := hide hv3
          clear hv3
          by_cases h200 : 200 < n
          · have e1 : decide ((200 : Int) < (n : Int)) = true := decide_eq_true (by omega)
            have e1' : decide (200 < n) = true := decide_eq_true h200
            have HF := hide (bad_len (W := W) (by omega))
            clear h200
            go_wp2_with (first | ((with_reducible refine (CW0).mono ?_); rintro e w' ⟨rfl, hw⟩; have hw := hw.symm; subst hw) | ((with_reducible refine (CW1).mono ?_); rintro e w' ⟨rfl, hw⟩; have hw := hw.symm; subst hw) | ((with_reducible refine (CW2).mono ?_); rintro e w' ⟨rfl, hw⟩; have hw := hw.symm; subst hw) | ((with_reducible refine (CW3).mono ?_); rintro e w' ⟨rfl, hw⟩; have hw := hw.symm; subst hw))
            go_ret
            exact ⟨ret_bool8 HF.out.symm, HB.out.bel⟩
          · have e1 : decide ((200 : Int) < (n : Int)) = false := decide_eq_false (by omega)
            have e1' : decide (200 < n) = false := decide_eq_false h200
            go_wp2_with (first | ((with_reducible refine (CW0).mono ?_); rintro e w' ⟨rfl, hw⟩; have hw := hw.symm; subst hw) | ((with_reducible refine (CW1).mono ?_); rintro e w' ⟨rfl, hw⟩; have hw := hw.symm; subst hw) | ((with_reducible refine (CW2).mono ?_); rintro e w' ⟨rfl, hw⟩; have hw := hw.symm; subst hw) | ((with_reducible refine (CW3).mono ?_); rintro e w' ⟨rfl, hw⟩; have hw := hw.symm; subst hw))
            clear e1 e1' CW0 CW1 CW2 CW3 d0 d1 d2 d3 d4
            go_loopw [3] (fun i wr => ∃ k : Nat, i = .int .i64 (k : Int) ∧ (k ≤ n ∧ NearK W k) ∧ Box wr w W A n c) (fun i _ => n - (intOf i).toNat)
            case atStart => exact ⟨0, rfl, ⟨Nat.zero_le _, NearK.zero W⟩, HB.out⟩
            case round =>
              obtain ⟨k, rfl, ⟨hk, hK⟩, hB⟩ := hrel
              have HBk := hide hB
              have HK := hide hK
              obtain ⟨d0, d1, d2, d3, d4⟩ := hB.facts
              clear hB hK HB
              by_cases hkn : k < n
              · have e1 : decide ((k : Int) < (n : Int)) = true := decide_eq_true (by omega)
                have e1' : decide (k < n) = true := decide_eq_true hkn
                obtain ⟨ad, n1, n2, n3, hl, ea, hb, hpr, c0, c1, c2⟩ := (HN.out.below HBk.out.bel hX0).at_ hkn
                have d4' : wr.cell? ⟨w.heap.size, 4, none⟩ = some (.slice (some ad) n c) := by rw [← ea]; exact d4
                clear d4
                have d4 := d4'
                clear d4'
                have k0 : (0 : Int) ≤ (k : Int) := by omega
                have k1 : (k : Int) < (n : Int) := by omega
                have HBx := hide (HBk.out.next (below_one8 wr (.cells #[.int .i64 n1, .int .i64 n2, .int .i64 n3] 63)))
                have HX := hide (Blk.new wr 63 #[.int .i64 n1, .int .i64 n2, .int .i64 n3])
                go_upto_region 7 with fail
                clear d0 d1 d2 d3 d4 c0 c1 c2 hb e1 e1' HBk
                generalize wr.alloc (.cells #[.int .i64 n1, .int .i64 n2, .int .i64 n3] 63) = w5 at *
                generalize wr.heap.size = bx at *
                have x0 : w5.cell? ⟨bx, 0, none⟩ = some (.int .i64 n1) := HX.out.cell 0
                have x1 : w5.cell? ⟨bx, 1, none⟩ = some (.int .i64 n2) := HX.out.cell 1
                have x2 : w5.cell? ⟨bx, 2, none⟩ = some (.int .i64 n3) := HX.out.cell 2
                obtain ⟨d0, d1, d2, d3, d4⟩ := HBx.out.facts
                by_cases t0 : 32 ≤ n1
                · have u0x : decide (n1 < (32 : Int)) = false := decide_eq_false (by omega)
                  by_cases t1 : n2 ≤ 126
                  · have u1x : decide ((126 : Int) < n2) = false := decide_eq_false (by omega)
                    by_cases t2 : n1 < n2
                    · have u2x : decide (n2 ≤ n1) = false := decide_eq_false (by omega)
                      by_cases t3 : 0 ≤ n3
                      · have u3x : decide (n3 < (0 : Int)) = false := decide_eq_false (by omega)
                        by_cases t4 : n3 ≤ W.chg
                        · have u4x : decide (W.chg < n3) = false := decide_eq_false (by omega)
                          have HOK : Hid (W.nearOk W.near[k] = true) := by show _ = _; rw [hpr, near_five, decide_eq_true t0, decide_eq_true t1, decide_eq_true t2, decide_eq_true t3, decide_eq_true t4]; rfl
                          clear t0 t1 t2 t3 t4
                          go_upto_region 9 with fail
                          clear u0x u1x u2x u3x u4x x0 x1 x2 d0 d1 d2 d3 d4
                          go_wp2_with fail
                          go_loopw [5] (fun i wr => ∃ m : Nat, i = .int .i64 (m : Int) ∧ (m ≤ k ∧ ∀ j (h' : j < W.near.length), j < m → Wt.pr W.near[j] ≠ Wt.pr W.near[k]) ∧ Box wr w W A n c ∧ Blk wr bx 63 #[.int .i64 n1, .int .i64 n2, .int .i64 n3]) (fun i _ => k - (intOf i).toNat)
                          case atStart => exact ⟨0, rfl, ⟨Nat.zero_le _, fun j _ h => absurd h (Nat.not_lt_zero _)⟩, HBx.out, HX.out⟩
                          case round =>
                            obtain ⟨m, rfl, ⟨hm, hne⟩, hB, hX⟩ := hrel
                            have HBy := hide hB
                            have HXy := hide hX
                            have HNE := hide hne
                            clear hB hX hne
                            by_cases hmk : m < k
                            · have e1 : decide ((m : Int) < (k : Int)) = true := decide_eq_true (by omega)
                              have e1' : decide (m < k) = true := decide_eq_true hmk
                              obtain ⟨ad2, m1, m2, m3, hl2, ea2, hb2, hpr2, c0, c1, c2⟩ := (HN.out.below HBy.out.bel hX0).at_ (k := m) (by omega)
                              rw [ea] at ea2
                              injection ea2 with ea2
                              subst ea2
                              have x0 : wr.cell? ⟨bx, 0, none⟩ = some (.int .i64 n1) := HXy.out.cell 0
                              have x1 : wr.cell? ⟨bx, 1, none⟩ = some (.int .i64 n2) := HXy.out.cell 1
                              have d4 : wr.cell? ⟨w.heap.size, 4, none⟩ = some (.slice (some ad) n c) := by rw [← ea]; exact HBy.out.facts.2.2.2.2
                              have k0 : (0 : Int) ≤ (m : Int) := by omega
                              have k1 : (m : Int) < (n : Int) := by omega
                              have HP2 := hide hpr2
                              clear hb2 hpr2
                              by_cases e2 : m1 = n1
                              · have g1 : (m1 == n1) = true := by rw [e2]; simp
                                by_cases e3 : m2 = n2
                                · have g2 : (m2 == n2) = true := by rw [e3]; simp
                                  have HF := hide (Wt.bad_seen (W := W) hl (by
                                    refine List.mem_map.2 ⟨W.near[m], List.mem_take_iff_getElem.2 ⟨m, by omega, rfl⟩, ?_⟩
                                    rw [HP2.out, hpr]; unfold Wt.pr; rw [e2, e3]))
                                  clear e2 e3
                                  go_wp2_with fail
                                  go_quiet (fail)
                                  go_wp2_with fail
                                  go_ret
                                  exact ⟨ret_bool8 HF.out.symm, below_drewN HBy.out.bel _⟩
                                · have g2 : (m2 == n2) = false := by rw [beq_eq_false_iff_ne]; exact e3
                                  have HQ : Hid (∀ j (h' : j < W.near.length), j < m + 1 → Wt.pr W.near[j] ≠ Wt.pr W.near[k]) := fun j hj hjm => by
                                    by_cases e : j = m
                                    · subst e; rw [HP2.out, hpr]; unfold Wt.pr; intro h; injection h with _ h; exact e3 h
                                    · exact HNE.out j hj (by omega)
                                  clear e2 e3
                                  go_wp2_with fail
                                  go_quiet (fail)
                                  go_wp2_with fail
                                  go_roundw
                                  case rel => exact ⟨m + 1, by go_num, ⟨by omega, HQ.out⟩, HBy.out.next (below_drewN (Below.refl _ _) _), HXy.out.drewN _⟩
                                  case measure => simp [intOf]; omega
                              · have g1 : (m1 == n1) = false := by rw [beq_eq_false_iff_ne]; exact e2
                                have HQ : Hid (∀ j (h' : j < W.near.length), j < m + 1 → Wt.pr W.near[j] ≠ Wt.pr W.near[k]) := fun j hj hjm => by
                                  by_cases e : j = m
                                  · subst e; rw [HP2.out, hpr]; unfold Wt.pr; intro h; injection h with h _; exact e2 h
                                  · exact HNE.out j hj (by omega)
                                clear e2
                                go_wp2_with fail
                                go_quiet (fail)
                                go_wp2_with fail
                                go_roundw
                                case rel => exact ⟨m + 1, by go_num, ⟨by omega, HQ.out⟩, HBy.out.next (below_drewN (Below.refl _ _) _), HXy.out.drewN _⟩
                                case measure => simp [intOf]; omega
                            · obtain rfl : m = k := by omega
                              have e1 : decide ((m : Int) < (m : Int)) = false := by simp
                              have e1' : decide (m < m) = false := by simp
                              have HK2 := hide (HK.out.succ hl HOK.out (fun j hj hjm => HNE.out j hj hjm))
                              go_wp2_with fail
                              go_roundw
                              case rel => exact ⟨m + 1, by go_num, ⟨by omega, HK2.out⟩, HBy.out⟩
                              case measure => simp [intOf]; omega
                        · have u4x : decide (W.chg < n3) = true := decide_eq_true (by omega)
                          have HF := hide (Wt.bad_near (W := W) hl (by rw [hpr, near_five, decide_eq_false t4]; simp))
                          clear t0 t1 t2 t3 t4
                          go_wp2_with fail
                          go_ret
                          exact ⟨ret_bool8 HF.out.symm, HBx.out.bel⟩
                      · have u3x : decide (n3 < (0 : Int)) = true := decide_eq_true (by omega)
                        have HF := hide (Wt.bad_near (W := W) hl (by rw [hpr, near_five, decide_eq_false t3]; simp))
                        clear t0 t1 t2 t3
                        go_wp2_with fail
                        go_ret
                        exact ⟨ret_bool8 HF.out.symm, HBx.out.bel⟩
                    · have u2x : decide (n2 ≤ n1) = true := decide_eq_true (by omega)
                      have HF := hide (Wt.bad_near (W := W) hl (by rw [hpr, near_five, decide_eq_false t2]; simp))
                      clear t0 t1 t2
                      go_wp2_with fail
                      go_ret
                      exact ⟨ret_bool8 HF.out.symm, HBx.out.bel⟩
                  · have u1x : decide ((126 : Int) < n2) = true := decide_eq_true (by omega)
                    have HF := hide (Wt.bad_near (W := W) hl (by rw [hpr, near_five, decide_eq_false t1]; simp))
                    clear t0 t1
                    go_wp2_with fail
                    go_ret
                    exact ⟨ret_bool8 HF.out.symm, HBx.out.bel⟩
                · have u0x : decide (n1 < (32 : Int)) = true := decide_eq_true (by omega)
                  have HF := hide (Wt.bad_near (W := W) hl (by rw [hpr, near_five, decide_eq_false t0]; simp))
                  clear t0
                  go_wp2_with fail
                  go_ret
                  exact ⟨ret_bool8 HF.out.symm, HBx.out.bel⟩
              · obtain rfl : k = n := by omega
                have e1 : decide ((k : Int) < (k : Int)) = false := by simp
                have e1' : decide (k < k) = false := by simp
                have HF : Hid (W.valid = true) := NearK.valid (by rw [HLN.out]; exact HK.out) (num_of HV0.out HV1.out HV2.out HV3.out) (by rw [HLN.out]; omega)
                go_wp2_with fail
                go_ret
                exact ⟨ret_bool8 HF.out.symm, HBk.out.bel⟩
def Wt.fitsN8 (a b : Int) (n : Int × Int × Int) : Bool := (n.1 == a && n.2.1 == b) || (n.1 == b && n.2.1 == a)
theorem look_none {l : List (Int × Int × Int)} {a b : Int} (h : ∀ i (hi : i < l.length), Wt.fitsN8 a b l[i] = false) : Wt.look l a b = none := by
  unfold Wt.look
  rw [List.find?_eq_none.2]
  · rfl
  · intro x hx
    obtain ⟨i, hi, rfl⟩ := List.getElem_of_mem hx
    have := h i hi
    unfold Wt.fitsN8 at this
    rw [this]; decide
theorem look_some {l : List (Int × Int × Int)} {a b : Int} {k : Nat} (hk : k < l.length) (h : ∀ i (hi : i < l.length), i < k → Wt.fitsN8 a b l[i] = false) (h1 : Wt.fitsN8 a b l[k] = true) : Wt.look l a b = some (l[k]).2.2 := by
  unfold Wt.look
  have h2 : l.find? (fun n => (n.1 == a && n.2.1 == b) || (n.1 == b && n.2.1 == a)) = some l[k] := by
    rw [List.find?_eq_some_iff_getElem]
    refine ⟨h1, k, hk, rfl, fun j hj => ?_⟩
    have := h j (by omega) hj
    unfold Wt.fitsN8 at this
    rw [this]; rfl
  rw [h2]; rfl
set_option maxRecDepth 100000 in
set_option maxHeartbeats 8000000 in
theorem rchange_any (W : Wt) (A : Option Addr) (n c X : Nat) (a b : UInt8) (w : World) (hN : Near w X A n W.near) (hX0 : X ≤ w.heap.size) (hn : n ≤ 140737488355328) :
    Calls Try.prog 39 #[wval W A n c, .int .u8 (a.toNat : Int), .int .u8 (b.toNat : Int)] w fun e w' => e = .returned (.int .i64 ((Wt.look W.near (a.toNat : Int) (b.toNat : Int)).getD W.chg)) ∧ Below w.heap.size w w' := by
  have HN := hide hN
  have hlen : W.near.length = n := hN.1
  have HLN := hide hlen
  have HB := hide (Box.start w W A n c)
  have ha0 := a.toNat_lt
  have hb0 := b.toNat_lt
  clear hN
  go_enter Try.func39, Try.ntmps39
  unfold wval
  go_upto_region 1 with fail
  generalize w.alloc (.cells #[.int .i64 W.ins, .int .i64 W.del, .int .i64 W.chg, .int .i64 W.swp, .slice A n c] 24) = w1 at *
  go_wp2_with fail
  go_loopw [7] (fun i wr => ∃ k : Nat, i = .int .i64 (k : Int) ∧ (k ≤ n ∧ ∀ i (hi : i < W.near.length), i < k → Wt.fitsN8 (a.toNat : Int) (b.toNat : Int) W.near[i] = false) ∧ Box wr w W A n c) (fun i _ => n - (intOf i).toNat)
  case atStart => exact ⟨0, rfl, ⟨Nat.zero_le _, fun i _ h => absurd h (Nat.not_lt_zero _)⟩, HB.out⟩
  case round =>
    obtain ⟨k, rfl, ⟨hk, hK⟩, hB⟩ := hrel
    have HBk := hide hB
    have HK := hide hK
    obtain ⟨d0, d1, d2, d3, d4⟩ := hB.facts
    clear hB hK HB
    by_cases hkn : k < n
    · have e1 : decide ((k : Int) < (n : Int)) = true := decide_eq_true (by omega)
      have e1' : decide (k < n) = true := decide_eq_true hkn
      obtain ⟨ad, n1, n2, n3, hl, ea, hb, hpr, c0, c1, c2⟩ := (HN.out.below HBk.out.bel hX0).at_ hkn
      have d4' : wr.cell? ⟨w.heap.size, 4, none⟩ = some (.slice (some ad) n c) := by rw [← ea]; exact d4
      clear d4
      have d4 := d4'
      clear d4'
      have k0 : (0 : Int) ≤ (k : Int) := by omega
      have k1 : (k : Int) < (n : Int) := by omega
      have HBx := hide (HBk.out.next (below_one8 wr (.cells #[.int .i64 n1, .int .i64 n2, .int .i64 n3] 63)))
      have HX := hide (Blk.new wr 63 #[.int .i64 n1, .int .i64 n2, .int .i64 n3])
      go_upto_region 5 with fail
      clear d0 d1 d2 d3 d4 c0 c1 c2 hb e1 e1' HBk
      generalize wr.alloc (.cells #[.int .i64 n1, .int .i64 n2, .int .i64 n3] 63) = w5 at *
      generalize wr.heap.size = bx at *
      have x0 : w5.cell? ⟨bx, 0, none⟩ = some (.int .i64 n1) := HX.out.cell 0
      have x1 : w5.cell? ⟨bx, 1, none⟩ = some (.int .i64 n2) := HX.out.cell 1
      have x2 : w5.cell? ⟨bx, 2, none⟩ = some (.int .i64 n3) := HX.out.cell 2
      have HFIT : Hid (Wt.fitsN8 (a.toNat : Int) (b.toNat : Int) W.near[k] = ((n1 == (a.toNat : Int) && n2 == (b.toNat : Int)) || (n1 == (b.toNat : Int) && n2 == (a.toNat : Int)))) := by show _ = _; rw [hpr]; rfl
      have HNX : Hid (Wt.fitsN8 (a.toNat : Int) (b.toNat : Int) W.near[k] = false → ∀ i (hi : i < W.near.length), i < k + 1 → Wt.fitsN8 (a.toNat : Int) (b.toNat : Int) W.near[i] = false) := fun h i hi hik => by
        by_cases e : i = k
        · subst e; exact h
        · exact HK.out i hi (by omega)
      have HYS : Hid (Wt.fitsN8 (a.toNat : Int) (b.toNat : Int) W.near[k] = true → (Wt.look W.near (a.toNat : Int) (b.toNat : Int)).getD W.chg = n3) := fun h => by
        rw [look_some hl (fun i hi hik => HK.out i hi hik) h, hpr]; rfl
      generalize Wt.fitsN8 (a.toNat : Int) (b.toNat : Int) W.near[k] = fit at *
      clear hpr
      obtain ⟨q1, h1⟩ : ∃ q, (n1 == (a.toNat : Int)) = q := ⟨_, rfl⟩
      obtain ⟨q2, h2⟩ : ∃ q, (n2 == (b.toNat : Int)) = q := ⟨_, rfl⟩
      obtain ⟨q3, h3⟩ : ∃ q, (n1 == (b.toNat : Int)) = q := ⟨_, rfl⟩
      obtain ⟨q4, h4⟩ : ∃ q, (n2 == (a.toNat : Int)) = q := ⟨_, rfl⟩
      rw [h1, h2, h3, h4] at HFIT
      cases q1 with
      | true =>
        cases q2 with
        | true =>
          have HFV : Hid (fit = true) := by show _ = _; rw [HFIT.out]; simp
          have HR := hide (HYS.out HFV.out)
          go_wp2_with fail
          go_ret
          exact ⟨by rw [HR.out]; rfl, HBx.out.bel⟩
        | false =>
          cases q3 with
          | true =>
            cases q4 with
            | true =>
              have HFV : Hid (fit = true) := by show _ = _; rw [HFIT.out]; simp
              have HR := hide (HYS.out HFV.out)
              go_wp2_with fail
              go_ret
              exact ⟨by rw [HR.out]; rfl, HBx.out.bel⟩
            | false =>
              have HFV : Hid (fit = false) := by show _ = _; rw [HFIT.out]; simp
              have HR := hide (HNX.out HFV.out)
              go_wp2_with fail
              go_roundw
              case rel => exact ⟨k + 1, by go_num, ⟨by omega, HR.out⟩, HBx.out⟩
              case measure => simp [intOf]; omega
          | false =>
            have HFV : Hid (fit = false) := by show _ = _; rw [HFIT.out]; simp
            have HR := hide (HNX.out HFV.out)
            go_wp2_with fail
            go_roundw
            case rel => exact ⟨k + 1, by go_num, ⟨by omega, HR.out⟩, HBx.out⟩
            case measure => simp [intOf]; omega
      | false =>
        cases q3 with
        | true =>
          cases q4 with
          | true =>
            have HFV : Hid (fit = true) := by show _ = _; rw [HFIT.out]; simp
            have HR := hide (HYS.out HFV.out)
            go_wp2_with fail
            go_ret
            exact ⟨by rw [HR.out]; rfl, HBx.out.bel⟩
          | false =>
            have HFV : Hid (fit = false) := by show _ = _; rw [HFIT.out]; simp
            have HR := hide (HNX.out HFV.out)
            go_wp2_with fail
            go_roundw
            case rel => exact ⟨k + 1, by go_num, ⟨by omega, HR.out⟩, HBx.out⟩
            case measure => simp [intOf]; omega
        | false =>
          have HFV : Hid (fit = false) := by show _ = _; rw [HFIT.out]; simp
          have HR := hide (HNX.out HFV.out)
          go_wp2_with fail
          go_roundw
          case rel => exact ⟨k + 1, by go_num, ⟨by omega, HR.out⟩, HBx.out⟩
          case measure => simp [intOf]; omega
    · obtain rfl : k = n := by omega
      have e1 : decide ((k : Int) < (k : Int)) = false := by simp
      have e1' : decide (k < k) = false := by simp
      have HF : Hid ((Wt.look W.near (a.toNat : Int) (b.toNat : Int)).getD W.chg = W.chg) := by show _ = _; rw [look_none (fun i hi => HK.out i hi (by rw [HLN.out] at hi; exact hi))]; rfl
      go_wp2_with fail
      go_ret
      exact ⟨by rw [HF.out]; rfl, HBk.out.bel⟩
end Go.Proofs.Ytnpdhbagfkilkaa

/- The reference of layer 18: Step. -/
set_option linter.unusedVariables false
set_option linter.unusedSimpArgs false
namespace Go.Proofs.Ytnpdhbagfkilkaa
open Go.RowKit

theorem index_ba (x : ByteArray) (k : Nat) (a : UInt8) (h : x.data.toList[k]? = some a) (w : World) : (Instr.index 9 (.string x) (.int .i64 (k : Int))).run Try.prog w = .ok (.int .u8 (a.toNat : Int)) w := by
  have e : bs x.data.toList = x := by cases x; simp [bs]
  have := index_bs x.data.toList k a h w
  rwa [e] at this
theorem at_of {x : List UInt8} {k : Nat} {a : UInt8} (h : x[k]? = some a) : Wt.at_ x k = (a.toNat : Int) := by unfold Wt.at_; rw [h]; rfl
/-- what the reference's Step returns -/
def stepR (W : Wt) (x y : List UInt8) (i j : Nat) (kind : Int) : Int × Int × Int × Bool :=
  if 1 ≤ kind ∧ kind ≤ 5 then (if (Wt.stp W x y i j kind.toNat).1 < 0 then (0, 0, 0, false) else ((Wt.stp W x y i j kind.toNat).1, (Wt.stp W x y i j kind.toNat).2.1, (Wt.stp W x y i j kind.toNat).2.2, true)) else (0, 0, 0, false)
def stepV (q : Int × Int × Int × Bool) : Value := .tuple #[.int .i64 q.1, .int .i64 q.2.1, .int .i64 q.2.2.1, .bool q.2.2.2]
theorem stepR_no {W : Wt} {x y : List UInt8} {i j : Nat} {kind : Int} (h : ¬ (1 ≤ kind ∧ kind ≤ 5)) : stepR W x y i j kind = (0, 0, 0, false) := by unfold stepR; rw [if_neg h]
theorem stepR_k {W : Wt} {x y : List UInt8} {i j k : Nat} {s : Int × Int × Int} (h1 : 1 ≤ k) (h5 : k ≤ 5) (h : Wt.stp W x y i j k = s) : stepR W x y i j (k : Int) = if s.1 < 0 then (0, 0, 0, false) else (s.1, s.2.1, s.2.2, true) := by
  unfold stepR
  rw [if_pos ⟨by omega, by omega⟩, show ((k : Int)).toNat = k by omega, h]
theorem results_tmp4 {fn : Func} {t u v x : Tmp} (h : fn.results = #[.tmp t, .tmp u, .tmp v, .tmp x]) (tmps : Array Value) (P : Program) (w : World) :
    (results fn tmps).run P w = .ok (.tuple #[tmps.getD t undef, tmps.getD u undef, tmps.getD v undef, tmps.getD x undef]) w := by
  simp [results, h]
theorem stepR_1y {W : Wt} {x y : List UInt8} {i j : Nat} {a b : UInt8} (ha : x[i]? = some a) (hb : y[j]? = some b) (h : a = b) : stepR W x y i j 1 = (0, 1, 1, true) := by
  have hi := (List.getElem?_eq_some_iff.1 ha).1
  have hj := (List.getElem?_eq_some_iff.1 hb).1
  refine (stepR_k (k := 1) (by decide) (by decide) (s := (0, 1, 1)) ?_).trans rfl
  show Wt.same x y i j = _
  unfold Wt.same
  rw [at_of ha, at_of hb, if_pos ⟨hi, hj, by rw [h]⟩]
theorem stepR_1n {W : Wt} {x y : List UInt8} {i j : Nat} (h : ¬ (i < x.length ∧ j < y.length ∧ Wt.at_ x i = Wt.at_ y j)) : stepR W x y i j 1 = (0, 0, 0, false) := by
  refine (stepR_k (k := 1) (by decide) (by decide) (s := Wt.no) ?_).trans rfl
  show Wt.same x y i j = _
  unfold Wt.same; rw [if_neg h]
theorem look_ge {W : Wt} (hW : W.valid = true) (a b : Int) : 0 ≤ (Wt.look W.near a b).getD W.chg := by
  unfold Wt.look
  cases h : W.near.find? (fun n => (n.1 == a && n.2.1 == b) || (n.1 == b && n.2.1 == a)) with
  | none => have := Wt.valid_num hW; simp; omega
  | some n => have := Wt.valid_near hW n (List.mem_of_find?_eq_some h); simp; omega
theorem stepR_2y {W : Wt} (hW : W.valid = true) {x y : List UInt8} {i j : Nat} {a b : UInt8} (ha : x[i]? = some a) (hb : y[j]? = some b) (h : a ≠ b) : stepR W x y i j 2 = ((Wt.look W.near (a.toNat : Int) (b.toNat : Int)).getD W.chg, 1, 1, true) := by
  have hi := (List.getElem?_eq_some_iff.1 ha).1
  have hj := (List.getElem?_eq_some_iff.1 hb).1
  refine (stepR_k (k := 2) (by decide) (by decide) (s := ((Wt.look W.near (a.toNat : Int) (b.toNat : Int)).getD W.chg, 1, 1)) ?_).trans ?_
  · show Wt.change W x y i j = _
    unfold Wt.change
    rw [at_of ha, at_of hb, if_pos ⟨hi, hj, fun e => h (UInt8.toNat_inj.1 (by omega))⟩]
  · rw [if_neg (by have := look_ge hW (a.toNat : Int) (b.toNat : Int); show ¬ _ < _; omega)]
theorem stepR_2n {W : Wt} {x y : List UInt8} {i j : Nat} (h : ¬ (i < x.length ∧ j < y.length ∧ Wt.at_ x i ≠ Wt.at_ y j)) : stepR W x y i j 2 = (0, 0, 0, false) := by
  refine (stepR_k (k := 2) (by decide) (by decide) (s := Wt.no) ?_).trans rfl
  show Wt.change W x y i j = _
  unfold Wt.change; rw [if_neg h]
theorem stepR_3y {W : Wt} (hW : W.valid = true) {x y : List UInt8} {i j : Nat} (h : j < y.length) : stepR W x y i j 3 = (W.ins, 0, 1, true) := by
  refine (stepR_k (k := 3) (by decide) (by decide) (s := (W.ins, 0, 1)) ?_).trans ?_
  · show Wt.insert W y j = _
    unfold Wt.insert; rw [if_pos h]
  · rw [if_neg (by have := Wt.valid_num hW; show ¬ _ < _; omega)]
theorem stepR_3n {W : Wt} {x y : List UInt8} {i j : Nat} (h : ¬ j < y.length) : stepR W x y i j 3 = (0, 0, 0, false) := by
  refine (stepR_k (k := 3) (by decide) (by decide) (s := Wt.no) ?_).trans rfl
  show Wt.insert W y j = _
  unfold Wt.insert; rw [if_neg h]
theorem stepR_4y {W : Wt} (hW : W.valid = true) {x y : List UInt8} {i j : Nat} (h : i < x.length) : stepR W x y i j 4 = (W.del, 1, 0, true) := by
  refine (stepR_k (k := 4) (by decide) (by decide) (s := (W.del, 1, 0)) ?_).trans ?_
  · show Wt.delete W x i = _
    unfold Wt.delete; rw [if_pos h]
  · rw [if_neg (by have := Wt.valid_num hW; show ¬ _ < _; omega)]
theorem stepR_4n {W : Wt} {x y : List UInt8} {i j : Nat} (h : ¬ i < x.length) : stepR W x y i j 4 = (0, 0, 0, false) := by
  refine (stepR_k (k := 4) (by decide) (by decide) (s := Wt.no) ?_).trans rfl
  show Wt.delete W x i = _
  unfold Wt.delete; rw [if_neg h]
theorem stepR_5y {W : Wt} (hW : W.valid = true) {x y : List UInt8} {i j : Nat} {a b a' b' : UInt8} (ha : x[i]? = some a) (hb : y[j]? = some b) (ha' : x[i + 1]? = some a') (hb' : y[j + 1]? = some b') (h1 : a ≠ a') (h2 : a = b') (h3 : a' = b) : stepR W x y i j 5 = (W.swp, 2, 2, true) := by
  have hi := (List.getElem?_eq_some_iff.1 ha').1
  have hj := (List.getElem?_eq_some_iff.1 hb').1
  refine (stepR_k (k := 5) (by decide) (by decide) (s := (W.swp, 2, 2)) ?_).trans ?_
  · show Wt.swap W x y i j = _
    unfold Wt.swap
    rw [at_of ha, at_of hb, at_of ha', at_of hb', if_pos ⟨hi, hj, fun e => h1 (by rw [h3]; exact UInt8.toNat_inj.1 (by omega)), by rw [h2], by rw [h3]⟩]
  · rw [if_neg (by have := Wt.valid_num hW; show ¬ _ < _; omega)]
theorem stepR_5n {W : Wt} {x y : List UInt8} {i j : Nat} (h : ¬ (i + 1 < x.length ∧ j + 1 < y.length ∧ Wt.at_ x i ≠ Wt.at_ x (i + 1) ∧ Wt.at_ x i = Wt.at_ y (j + 1) ∧ Wt.at_ x (i + 1) = Wt.at_ y j)) : stepR W x y i j 5 = (0, 0, 0, false) := by
  refine (stepR_k (k := 5) (by decide) (by decide) (s := Wt.no) ?_).trans rfl
  show Wt.swap W x y i j = _
  unfold Wt.swap
  rw [if_neg (fun hh => h ⟨hh.1, hh.2.1, fun e => hh.2.2.1 (by rw [e, hh.2.2.2.2]), hh.2.2.2.1, hh.2.2.2.2⟩)]
set_option maxRecDepth 100000 in
set_option maxHeartbeats 8000000 in
theorem rstep1_any (W : Wt) (hW : W.valid = true) (A : Option Addr) (n c X : Nat) (x y : ByteArray) (i j : Nat) (w : World) (hN : Near w X A n W.near) (hX0 : X ≤ w.heap.size) (hn : n ≤ 140737488355328) (hi : i ≤ x.size) (hj : j ≤ y.size) (hx : x.size ≤ 120) (hy : y.size ≤ 120) :
    Calls Try.prog 32 #[wval W A n c, .string x, .string y, .int .i64 (i : Int), .int .i64 (j : Int), .int .i64 1] w fun e w' => e = .returned (stepV (stepR W x.data.toList y.data.toList i j 1)) ∧ Below w.heap.size w w' := by
  have HN := hide hN
  have HV := hide hW
  have HB1 := hide (Box.start w W A n c)
  have HSX : Hid (x.data.toList.length = x.size) := by show _ = _; simp
  have HSY : Hid (y.data.toList.length = y.size) := by show _ = _; simp
  obtain ⟨l, hl0⟩ : ∃ l, x.size - i = l := ⟨_, rfl⟩
  obtain ⟨r, hr0⟩ : ∃ r, y.size - j = r := ⟨_, rfl⟩
  have el : (x.size : Int) - (i : Int) = (l : Int) := by omega
  have er : (y.size : Int) - (j : Int) = (r : Int) := by omega
  have k0 : (0 : Int) ≤ (i : Int) := by omega
  have k1 : (0 : Int) ≤ (j : Int) := by omega
  clear hN hW
  go_enter Try.func32, Try.ntmps32
  unfold wval
  go_upto_region 3 with fail
  clear el er
  generalize w.alloc (.cells #[.int .i64 W.ins, .int .i64 W.del, .int .i64 W.chg, .int .i64 W.swp, .slice A n c] 24) = w1 at *
  obtain ⟨d0, d1, d2, d3, d4⟩ := HB1.out.facts
  by_cases hl : 0 < l
  · have g1 : decide ((0 : Int) < (l : Int)) = true := decide_eq_true (by omega)
    have g1' : decide (0 < l) = true := decide_eq_true (by omega)
    by_cases hr : 0 < r
    · have g2 : decide ((0 : Int) < (r : Int)) = true := decide_eq_true (by omega)
      have g2' : decide (0 < r) = true := decide_eq_true (by omega)
      obtain ⟨a, ha⟩ : ∃ c, x.data.toList[i]? = some c := ⟨_, List.getElem?_eq_getElem (by rw [HSX.out]; omega)⟩
      have ix := index_ba x _ a ha
      obtain ⟨b, hb⟩ : ∃ c, y.data.toList[j]? = some c := ⟨_, List.getElem?_eq_getElem (by rw [HSY.out]; omega)⟩
      have iy := index_ba y _ b hb
      have k2 : (i : Int) < (x.size : Int) := by omega
      have k3 : (j : Int) < (y.size : Int) := by omega
      by_cases he : a = b
      · have HF := hide (stepR_1y (W := W) ha hb he)
        have e : ((a.toNat : Int) == (b.toNat : Int)) = true := by rw [he]; simp
        clear he ha hb
        go_wp2_with fail
        go_quiet (fail)
        have HB2 := hide (HB1.out.next (below_drewN (Below.refl _ _) nq))
        clear d0 d1 d2 d3 d4 HB1
        generalize w1.drewN nq = w2 at *
        obtain ⟨d0, d1, d2, d3, d4⟩ := HB2.out.facts
        go_wp2_with fail
        refine bodyPost_ret (results_tmp4 rfl _ _ _) rfl ?_
        exact ⟨by rw [HF.out]; rfl, HB2.out.bel⟩
      · have HF := hide (stepR_1n (W := W) (x := x.data.toList) (y := y.data.toList) (i := i) (j := j) (fun hh => he (UInt8.toNat_inj.1 (by have := hh.2.2; rw [at_of ha, at_of hb] at this; omega))))
        have e : ((a.toNat : Int) == (b.toNat : Int)) = false := by rw [beq_eq_false_iff_ne]; intro h; exact he (UInt8.toNat_inj.1 (by omega))
        clear he ha hb
        go_wp2_with fail
        go_quiet (fail)
        have HB2 := hide (HB1.out.next (below_drewN (Below.refl _ _) nq))
        clear d0 d1 d2 d3 d4 HB1
        generalize w1.drewN nq = w2 at *
        obtain ⟨d0, d1, d2, d3, d4⟩ := HB2.out.facts
        go_wp2_with fail
        go_quiet (fail)
        have HB3 := hide (HB2.out.next (below_drewN (Below.refl _ _) nq))
        clear d0 d1 d2 d3 d4 HB2
        generalize w2.drewN nq = w3 at *
        obtain ⟨d0, d1, d2, d3, d4⟩ := HB3.out.facts
        go_wp2_with fail
        go_quiet (fail)
        have HB4 := hide (HB3.out.next (below_drewN (Below.refl _ _) nq))
        clear d0 d1 d2 d3 d4 HB3
        generalize w3.drewN nq = w4 at *
        obtain ⟨d0, d1, d2, d3, d4⟩ := HB4.out.facts
        go_wp2_with fail
        refine bodyPost_ret (results_tmp4 rfl _ _ _) rfl ?_
        exact ⟨by rw [HF.out]; rfl, HB4.out.bel⟩
    · have g2 : decide ((0 : Int) < (r : Int)) = false := decide_eq_false (by omega)
      have g2' : decide (0 < r) = false := decide_eq_false (by omega)
      have HF := hide (stepR_1n (W := W) (x := x.data.toList) (y := y.data.toList) (i := i) (j := j) (fun hh => by have := hh.2.1; rw [HSY.out] at this; omega))
      clear hr
      go_wp2_with fail
      go_quiet (fail)
      have HB2 := hide (HB1.out.next (below_drewN (Below.refl _ _) nq))
      clear d0 d1 d2 d3 d4 HB1
      generalize w1.drewN nq = w2 at *
      obtain ⟨d0, d1, d2, d3, d4⟩ := HB2.out.facts
      go_wp2_with fail
      go_quiet (fail)
      have HB3 := hide (HB2.out.next (below_drewN (Below.refl _ _) nq))
      clear d0 d1 d2 d3 d4 HB2
      generalize w2.drewN nq = w3 at *
      obtain ⟨d0, d1, d2, d3, d4⟩ := HB3.out.facts
      go_wp2_with fail
      go_quiet (fail)
      have HB4 := hide (HB3.out.next (below_drewN (Below.refl _ _) nq))
      clear d0 d1 d2 d3 d4 HB3
      generalize w3.drewN nq = w4 at *
      obtain ⟨d0, d1, d2, d3, d4⟩ := HB4.out.facts
      go_wp2_with fail
      refine bodyPost_ret (results_tmp4 rfl _ _ _) rfl ?_
      exact ⟨by rw [HF.out]; rfl, HB4.out.bel⟩
  · have g1 : decide ((0 : Int) < (l : Int)) = false := decide_eq_false (by omega)
    have g1' : decide (0 < l) = false := decide_eq_false (by omega)
    have HF := hide (stepR_1n (W := W) (x := x.data.toList) (y := y.data.toList) (i := i) (j := j) (fun hh => by have := hh.1; rw [HSX.out] at this; omega))
    clear hl
    go_wp2_with fail
    go_quiet (fail)
    have HB2 := hide (HB1.out.next (below_drewN (Below.refl _ _) nq))
    clear d0 d1 d2 d3 d4 HB1
    generalize w1.drewN nq = w2 at *
    obtain ⟨d0, d1, d2, d3, d4⟩ := HB2.out.facts
    go_wp2_with fail
    go_quiet (fail)
    have HB3 := hide (HB2.out.next (below_drewN (Below.refl _ _) nq))
    clear d0 d1 d2 d3 d4 HB2
    generalize w2.drewN nq = w3 at *
    obtain ⟨d0, d1, d2, d3, d4⟩ := HB3.out.facts
    go_wp2_with fail
    go_quiet (fail)
    have HB4 := hide (HB3.out.next (below_drewN (Below.refl _ _) nq))
    clear d0 d1 d2 d3 d4 HB3
    generalize w3.drewN nq = w4 at *
    obtain ⟨d0, d1, d2, d3, d4⟩ := HB4.out.facts
    go_wp2_with fail
    refine bodyPost_ret (results_tmp4 rfl _ _ _) rfl ?_
    exact ⟨by rw [HF.out]; rfl, HB4.out.bel⟩
set_option maxRecDepth 100000 in
set_option maxHeartbeats 8000000 in
theorem rstep2_any (W : Wt) (hW : W.valid = true) (A : Option Addr) (n c X : Nat) (x y : ByteArray) (i j : Nat) (w : World) (hN : Near w X A n W.near) (hX0 : X ≤ w.heap.size) (hn : n ≤ 140737488355328) (hi : i ≤ x.size) (hj : j ≤ y.size) (hx : x.size ≤ 120) (hy : y.size ≤ 120) :
    Calls Try.prog 32 #[wval W A n c, .string x, .string y, .int .i64 (i : Int), .int .i64 (j : Int), .int .i64 2] w fun e w' => e = .returned (stepV (stepR W x.data.toList y.data.toList i j 2)) ∧ Below w.heap.size w w' := by
  have HN := hide hN
  have HV := hide hW
  have HB1 := hide (Box.start w W A n c)
  have HSX : Hid (x.data.toList.length = x.size) := by show _ = _; simp
  have HSY : Hid (y.data.toList.length = y.size) := by show _ = _; simp
  obtain ⟨l, hl0⟩ : ∃ l, x.size - i = l := ⟨_, rfl⟩
  obtain ⟨r, hr0⟩ : ∃ r, y.size - j = r := ⟨_, rfl⟩
  have el : (x.size : Int) - (i : Int) = (l : Int) := by omega
  have er : (y.size : Int) - (j : Int) = (r : Int) := by omega
  have k0 : (0 : Int) ≤ (i : Int) := by omega
  have k1 : (0 : Int) ≤ (j : Int) := by omega
  clear hN hW
  go_enter Try.func32, Try.ntmps32
  unfold wval
  go_upto_region 3 with fail
  clear el er
  generalize w.alloc (.cells #[.int .i64 W.ins, .int .i64 W.del, .int .i64 W.chg, .int .i64 W.swp, .slice A n c] 24) = w1 at *
  obtain ⟨d0, d1, d2, d3, d4⟩ := HB1.out.facts
  by_cases hl : 0 < l
  · have g1 : decide ((0 : Int) < (l : Int)) = true := decide_eq_true (by omega)
    have g1' : decide (0 < l) = true := decide_eq_true (by omega)
    by_cases hr : 0 < r
    · have g2 : decide ((0 : Int) < (r : Int)) = true := decide_eq_true (by omega)
      have g2' : decide (0 < r) = true := decide_eq_true (by omega)
      obtain ⟨a, ha⟩ : ∃ c, x.data.toList[i]? = some c := ⟨_, List.getElem?_eq_getElem (by rw [HSX.out]; omega)⟩
      have ix := index_ba x _ a ha
      obtain ⟨b, hb⟩ : ∃ c, y.data.toList[j]? = some c := ⟨_, List.getElem?_eq_getElem (by rw [HSY.out]; omega)⟩
      have iy := index_ba y _ b hb
      have k2 : (i : Int) < (x.size : Int) := by omega
      have k3 : (j : Int) < (y.size : Int) := by omega
      by_cases he : a ≠ b
      · have HF := hide (stepR_2y HV.out ha hb he)
        have e : ((a.toNat : Int) != (b.toNat : Int)) = true := by rw [bne_iff_ne]; intro h; exact he (UInt8.toNat_inj.1 (by omega))
        clear he ha hb
        go_wp2_with fail
        go_quiet (fail)
        have HB2 := hide (HB1.out.next (below_drewN (Below.refl _ _) nq))
        clear d0 d1 d2 d3 d4 HB1
        generalize w1.drewN nq = w2 at *
        obtain ⟨d0, d1, d2, d3, d4⟩ := HB2.out.facts
        go_wp2_with fail
        go_quiet (fail)
        have HB3 := hide (HB2.out.next (below_drewN (Below.refl _ _) nq))
        clear d0 d1 d2 d3 d4 HB2
        generalize w2.drewN nq = w3 at *
        obtain ⟨d0, d1, d2, d3, d4⟩ := HB3.out.facts
        go_wp2_with fail
        obtain ⟨U, hU, g, u0, rfl, hgu, hgi⟩ := cls w3
        have xs_0 := fun u => (((HB3.out.blk.to (hgu u)).cell 0).trans (show _ = some (Value.int IntKind.i64 W.ins) from rfl))
        have xs_1 := fun u => (((HB3.out.blk.to (hgu u)).cell 1).trans (show _ = some (Value.int IntKind.i64 W.del) from rfl))
        have xs_2 := fun u => (((HB3.out.blk.to (hgu u)).cell 2).trans (show _ = some (Value.int IntKind.i64 W.chg) from rfl))
        have xs_3 := fun u => (((HB3.out.blk.to (hgu u)).cell 3).trans (show _ = some (Value.int IntKind.i64 W.swp) from rfl))
        have xs_4 := fun u => (((HB3.out.blk.to (hgu u)).cell 4).trans (show _ = some (Value.slice A n c) from rfl))
        have CC : ∀ u, Calls Try.prog 39 #[wval W A n c, .int .u8 (a.toNat : Int), .int .u8 (b.toNat : Int)] (g u) fun e w' => e = .returned (.int .i64 ((Wt.look W.near (a.toNat : Int) (b.toNat : Int)).getD W.chg)) ∧ ∃ u', w' = g u' := fun u => cls_call hgu hgi (fun Wd hb => rchange_any W A n c X a b Wd (HN.out.below (below_to HB3.out.bel (Nat.le_refl _) hb) hX0) (by have := (below_to HB3.out.bel (Nat.le_refl _) hb).size; omega) hn) u
        unfold wval at CC
        clear d0 d1 d2 d3 d4
        refine wp_region_class g (by kernel_rfl) (by kernel_rfl) (hgi _ (hgu _).drew) ?_
        repeat (go_big_quiet_step (with_reducible exact CC _))
        refine wpQuiet_nil ?_
        intro w9 hw9
        obtain ⟨u, rfl⟩ := hw9
        go_wp2_with fail
        refine bodyPost_ret (results_tmp4 rfl _ _ _) rfl ?_
        exact ⟨by rw [HF.out]; rfl, below_to HB3.out.bel (Nat.le_refl _) (hgu u)⟩
      · have he := Classical.not_not.1 he
        have HF := hide (stepR_2n (W := W) (x := x.data.toList) (y := y.data.toList) (i := i) (j := j) (fun hh => hh.2.2 (by rw [at_of ha, at_of hb, he])))
        have e : ((a.toNat : Int) != (b.toNat : Int)) = false := by rw [he]; simp
        clear he ha hb
        go_wp2_with fail
        go_quiet (fail)
        have HB2 := hide (HB1.out.next (below_drewN (Below.refl _ _) nq))
        clear d0 d1 d2 d3 d4 HB1
        generalize w1.drewN nq = w2 at *
        obtain ⟨d0, d1, d2, d3, d4⟩ := HB2.out.facts
        go_wp2_with fail
        go_quiet (fail)
        have HB3 := hide (HB2.out.next (below_drewN (Below.refl _ _) nq))
        clear d0 d1 d2 d3 d4 HB2
        generalize w2.drewN nq = w3 at *
        obtain ⟨d0, d1, d2, d3, d4⟩ := HB3.out.facts
        go_wp2_with fail
        go_quiet (fail)
        have HB4 := hide (HB3.out.next (below_drewN (Below.refl _ _) nq))
        clear d0 d1 d2 d3 d4 HB3
        generalize w3.drewN nq = w4 at *
        obtain ⟨d0, d1, d2, d3, d4⟩ := HB4.out.facts
        go_wp2_with fail
        refine bodyPost_ret (results_tmp4 rfl _ _ _) rfl ?_
        exact ⟨by rw [HF.out]; rfl, HB4.out.bel⟩
    · have g2 : decide ((0 : Int) < (r : Int)) = false := decide_eq_false (by omega)
      have g2' : decide (0 < r) = false := decide_eq_false (by omega)
      have HF := hide (stepR_2n (W := W) (x := x.data.toList) (y := y.data.toList) (i := i) (j := j) (fun hh => by have := hh.2.1; rw [HSY.out] at this; omega))
      clear hr
      go_wp2_with fail
      go_quiet (fail)
      have HB2 := hide (HB1.out.next (below_drewN (Below.refl _ _) nq))
      clear d0 d1 d2 d3 d4 HB1
      generalize w1.drewN nq = w2 at *
      obtain ⟨d0, d1, d2, d3, d4⟩ := HB2.out.facts
      go_wp2_with fail
      go_quiet (fail)
      have HB3 := hide (HB2.out.next (below_drewN (Below.refl _ _) nq))
      clear d0 d1 d2 d3 d4 HB2
      generalize w2.drewN nq = w3 at *
      obtain ⟨d0, d1, d2, d3, d4⟩ := HB3.out.facts
      go_wp2_with fail
      go_quiet (fail)
      have HB4 := hide (HB3.out.next (below_drewN (Below.refl _ _) nq))
      clear d0 d1 d2 d3 d4 HB3
      generalize w3.drewN nq = w4 at *
      obtain ⟨d0, d1, d2, d3, d4⟩ := HB4.out.facts
      go_wp2_with fail
      refine bodyPost_ret (results_tmp4 rfl _ _ _) rfl ?_
      exact ⟨by rw [HF.out]; rfl, HB4.out.bel⟩
  · have g1 : decide ((0 : Int) < (l : Int)) = false := decide_eq_false (by omega)
    have g1' : decide (0 < l) = false := decide_eq_false (by omega)
    have HF := hide (stepR_2n (W := W) (x := x.data.toList) (y := y.data.toList) (i := i) (j := j) (fun hh => by have := hh.1; rw [HSX.out] at this; omega))
    clear hl
    go_wp2_with fail
    go_quiet (fail)
    have HB2 := hide (HB1.out.next (below_drewN (Below.refl _ _) nq))
    clear d0 d1 d2 d3 d4 HB1
    generalize w1.drewN nq = w2 at *
    obtain ⟨d0, d1, d2, d3, d4⟩ := HB2.out.facts
    go_wp2_with fail
    go_quiet (fail)
    have HB3 := hide (HB2.out.next (below_drewN (Below.refl _ _) nq))
    clear d0 d1 d2 d3 d4 HB2
    generalize w2.drewN nq = w3 at *
    obtain ⟨d0, d1, d2, d3, d4⟩ := HB3.out.facts
    go_wp2_with fail
    go_quiet (fail)
    have HB4 := hide (HB3.out.next (below_drewN (Below.refl _ _) nq))
    clear d0 d1 d2 d3 d4 HB3
    generalize w3.drewN nq = w4 at *
    obtain ⟨d0, d1, d2, d3, d4⟩ := HB4.out.facts
    go_wp2_with fail
    refine bodyPost_ret (results_tmp4 rfl _ _ _) rfl ?_
    exact ⟨by rw [HF.out]; rfl, HB4.out.bel⟩
set_option maxRecDepth 100000 in
set_option maxHeartbeats 8000000 in
theorem rstep3_any (W : Wt) (hW : W.valid = true) (A : Option Addr) (n c X : Nat) (x y : ByteArray) (i j : Nat) (w : World) (hN : Near w X A n W.near) (hX0 : X ≤ w.heap.size) (hn : n ≤ 140737488355328) (hi : i ≤ x.size) (hj : j ≤ y.size) (hx : x.size ≤ 120) (hy : y.size ≤ 120) :
    Calls Try.prog 32 #[wval W A n c, .string x, .string y, .int .i64 (i : Int), .int .i64 (j : Int), .int .i64 3] w fun e w' => e = .returned (stepV (stepR W x.data.toList y.data.toList i j 3)) ∧ Below w.heap.size w w' := by
  have HN := hide hN
  have HV := hide hW
  have HB1 := hide (Box.start w W A n c)
  have HSX : Hid (x.data.toList.length = x.size) := by show _ = _; simp
  have HSY : Hid (y.data.toList.length = y.size) := by show _ = _; simp
  obtain ⟨l, hl0⟩ : ∃ l, x.size - i = l := ⟨_, rfl⟩
  obtain ⟨r, hr0⟩ : ∃ r, y.size - j = r := ⟨_, rfl⟩
  have el : (x.size : Int) - (i : Int) = (l : Int) := by omega
  have er : (y.size : Int) - (j : Int) = (r : Int) := by omega
  have k0 : (0 : Int) ≤ (i : Int) := by omega
  have k1 : (0 : Int) ≤ (j : Int) := by omega
  clear hN hW
  go_enter Try.func32, Try.ntmps32
  unfold wval
  go_upto_region 3 with fail
  clear el er
  generalize w.alloc (.cells #[.int .i64 W.ins, .int .i64 W.del, .int .i64 W.chg, .int .i64 W.swp, .slice A n c] 24) = w1 at *
  obtain ⟨d0, d1, d2, d3, d4⟩ := HB1.out.facts
  by_cases hr : 0 < r
  · have g2 : decide ((0 : Int) < (r : Int)) = true := decide_eq_true (by omega)
    have g2' : decide (0 < r) = true := decide_eq_true (by omega)
    have HF := hide (stepR_3y HV.out (x := x.data.toList) (y := y.data.toList) (i := i) (j := j) (by rw [HSY.out]; omega))
    clear hr
    go_wp2_with fail
    go_quiet (fail)
    have HB2 := hide (HB1.out.next (below_drewN (Below.refl _ _) nq))
    clear d0 d1 d2 d3 d4 HB1
    generalize w1.drewN nq = w2 at *
    obtain ⟨d0, d1, d2, d3, d4⟩ := HB2.out.facts
    go_wp2_with fail
    go_quiet (fail)
    have HB3 := hide (HB2.out.next (below_drewN (Below.refl _ _) nq))
    clear d0 d1 d2 d3 d4 HB2
    generalize w2.drewN nq = w3 at *
    obtain ⟨d0, d1, d2, d3, d4⟩ := HB3.out.facts
    go_wp2_with fail
    refine bodyPost_ret (results_tmp4 rfl _ _ _) rfl ?_
    exact ⟨by rw [HF.out]; rfl, HB3.out.bel⟩
  · have g2 : decide ((0 : Int) < (r : Int)) = false := decide_eq_false (by omega)
    have g2' : decide (0 < r) = false := decide_eq_false (by omega)
    have HF := hide (stepR_3n (W := W) (x := x.data.toList) (y := y.data.toList) (i := i) (j := j) (by rw [HSY.out]; omega))
    clear hr
    go_wp2_with fail
    go_quiet (fail)
    have HB2 := hide (HB1.out.next (below_drewN (Below.refl _ _) nq))
    clear d0 d1 d2 d3 d4 HB1
    generalize w1.drewN nq = w2 at *
    obtain ⟨d0, d1, d2, d3, d4⟩ := HB2.out.facts
    go_wp2_with fail
    go_quiet (fail)
    have HB3 := hide (HB2.out.next (below_drewN (Below.refl _ _) nq))
    clear d0 d1 d2 d3 d4 HB2
    generalize w2.drewN nq = w3 at *
    obtain ⟨d0, d1, d2, d3, d4⟩ := HB3.out.facts
    go_wp2_with fail
    go_quiet (fail)
    have HB4 := hide (HB3.out.next (below_drewN (Below.refl _ _) nq))
    clear d0 d1 d2 d3 d4 HB3
    generalize w3.drewN nq = w4 at *
    obtain ⟨d0, d1, d2, d3, d4⟩ := HB4.out.facts
    go_wp2_with fail
    refine bodyPost_ret (results_tmp4 rfl _ _ _) rfl ?_
    exact ⟨by rw [HF.out]; rfl, HB4.out.bel⟩
set_option maxRecDepth 100000 in
set_option maxHeartbeats 8000000 in
theorem rstep4_any (W : Wt) (hW : W.valid = true) (A : Option Addr) (n c X : Nat) (x y : ByteArray) (i j : Nat) (w : World) (hN : Near w X A n W.near) (hX0 : X ≤ w.heap.size) (hn : n ≤ 140737488355328) (hi : i ≤ x.size) (hj : j ≤ y.size) (hx : x.size ≤ 120) (hy : y.size ≤ 120) :
    Calls Try.prog 32 #[wval W A n c, .string x, .string y, .int .i64 (i : Int), .int .i64 (j : Int), .int .i64 4] w fun e w' => e = .returned (stepV (stepR W x.data.toList y.data.toList i j 4)) ∧ Below w.heap.size w w' := by
  have HN := hide hN
  have HV := hide hW
  have HB1 := hide (Box.start w W A n c)
  have HSX : Hid (x.data.toList.length = x.size) := by show _ = _; simp
  have HSY : Hid (y.data.toList.length = y.size) := by show _ = _; simp
  obtain ⟨l, hl0⟩ : ∃ l, x.size - i = l := ⟨_, rfl⟩
  obtain ⟨r, hr0⟩ : ∃ r, y.size - j = r := ⟨_, rfl⟩
  have el : (x.size : Int) - (i : Int) = (l : Int) := by omega
  have er : (y.size : Int) - (j : Int) = (r : Int) := by omega
  have k0 : (0 : Int) ≤ (i : Int) := by omega
  have k1 : (0 : Int) ≤ (j : Int) := by omega
  clear hN hW
  go_enter Try.func32, Try.ntmps32
  unfold wval
  go_upto_region 3 with fail
  clear el er
  generalize w.alloc (.cells #[.int .i64 W.ins, .int .i64 W.del, .int .i64 W.chg, .int .i64 W.swp, .slice A n c] 24) = w1 at *
  obtain ⟨d0, d1, d2, d3, d4⟩ := HB1.out.facts
  by_cases hl : 0 < l
  · have g1 : decide ((0 : Int) < (l : Int)) = true := decide_eq_true (by omega)
    have g1' : decide (0 < l) = true := decide_eq_true (by omega)
    have HF := hide (stepR_4y HV.out (x := x.data.toList) (y := y.data.toList) (i := i) (j := j) (by rw [HSX.out]; omega))
    clear hl
    go_wp2_with fail
    go_quiet (fail)
    have HB2 := hide (HB1.out.next (below_drewN (Below.refl _ _) nq))
    clear d0 d1 d2 d3 d4 HB1
    generalize w1.drewN nq = w2 at *
    obtain ⟨d0, d1, d2, d3, d4⟩ := HB2.out.facts
    go_wp2_with fail
    go_quiet (fail)
    have HB3 := hide (HB2.out.next (below_drewN (Below.refl _ _) nq))
    clear d0 d1 d2 d3 d4 HB2
    generalize w2.drewN nq = w3 at *
    obtain ⟨d0, d1, d2, d3, d4⟩ := HB3.out.facts
    go_wp2_with fail
    refine bodyPost_ret (results_tmp4 rfl _ _ _) rfl ?_
    exact ⟨by rw [HF.out]; rfl, HB3.out.bel⟩
  · have g1 : decide ((0 : Int) < (l : Int)) = false := decide_eq_false (by omega)
    have g1' : decide (0 < l) = false := decide_eq_false (by omega)
    have HF := hide (stepR_4n (W := W) (x := x.data.toList) (y := y.data.toList) (i := i) (j := j) (by rw [HSX.out]; omega))
    clear hl
    go_wp2_with fail
    go_quiet (fail)
    have HB2 := hide (HB1.out.next (below_drewN (Below.refl _ _) nq))
    clear d0 d1 d2 d3 d4 HB1
    generalize w1.drewN nq = w2 at *
    obtain ⟨d0, d1, d2, d3, d4⟩ := HB2.out.facts
    go_wp2_with fail
    go_quiet (fail)
    have HB3 := hide (HB2.out.next (below_drewN (Below.refl _ _) nq))
    clear d0 d1 d2 d3 d4 HB2
    generalize w2.drewN nq = w3 at *
    obtain ⟨d0, d1, d2, d3, d4⟩ := HB3.out.facts
    go_wp2_with fail
    go_quiet (fail)
    have HB4 := hide (HB3.out.next (below_drewN (Below.refl _ _) nq))
    clear d0 d1 d2 d3 d4 HB3
    generalize w3.drewN nq = w4 at *
    obtain ⟨d0, d1, d2, d3, d4⟩ := HB4.out.facts
    go_wp2_with fail
    refine bodyPost_ret (results_tmp4 rfl _ _ _) rfl ?_
    exact ⟨by rw [HF.out]; rfl, HB4.out.bel⟩
set_option maxRecDepth 100000 in
set_option maxHeartbeats 8000000 in
theorem rstep5_any (W : Wt) (hW : W.valid = true) (A : Option Addr) (n c X : Nat) (x y : ByteArray) (i j : Nat) (w : World) (hN : Near w X A n W.near) (hX0 : X ≤ w.heap.size) (hn : n ≤ 140737488355328) (hi : i ≤ x.size) (hj : j ≤ y.size) (hx : x.size ≤ 120) (hy : y.size ≤ 120) :
    Calls Try.prog 32 #[wval W A n c, .string x, .string y, .int .i64 (i : Int), .int .i64 (j : Int), .int .i64 5] w fun e w' => e = .returned (stepV (stepR W x.data.toList y.data.toList i j 5)) ∧ Below w.heap.size w w' := by
  have HN := hide hN
  have HV := hide hW
  have HB1 := hide (Box.start w W A n c)
  have HSX : Hid (x.data.toList.length = x.size) := by show _ = _; simp
  have HSY : Hid (y.data.toList.length = y.size) := by show _ = _; simp
  obtain ⟨l, hl0⟩ : ∃ l, x.size - i = l := ⟨_, rfl⟩
  obtain ⟨r, hr0⟩ : ∃ r, y.size - j = r := ⟨_, rfl⟩
  have el : (x.size : Int) - (i : Int) = (l : Int) := by omega
  have er : (y.size : Int) - (j : Int) = (r : Int) := by omega
  have k0 : (0 : Int) ≤ (i : Int) := by omega
  have k1 : (0 : Int) ≤ (j : Int) := by omega
  clear hN hW
  go_enter Try.func32, Try.ntmps32
  unfold wval
  go_upto_region 3 with fail
  clear el er
  generalize w.alloc (.cells #[.int .i64 W.ins, .int .i64 W.del, .int .i64 W.chg, .int .i64 W.swp, .slice A n c] 24) = w1 at *
  obtain ⟨d0, d1, d2, d3, d4⟩ := HB1.out.facts
  by_cases hl : 1 < l
  · have g1 : decide ((1 : Int) < (l : Int)) = true := decide_eq_true (by omega)
    have g1' : decide (1 < l) = true := decide_eq_true (by omega)
    by_cases hr : 1 < r
    · have g2 : decide ((1 : Int) < (r : Int)) = true := decide_eq_true (by omega)
      have g2' : decide (1 < r) = true := decide_eq_true (by omega)
      obtain ⟨a, ha⟩ : ∃ c, x.data.toList[i]? = some c := ⟨_, List.getElem?_eq_getElem (by rw [HSX.out]; omega)⟩
      have ix := index_ba x _ a ha
      obtain ⟨b, hb⟩ : ∃ c, y.data.toList[j]? = some c := ⟨_, List.getElem?_eq_getElem (by rw [HSY.out]; omega)⟩
      have iy := index_ba y _ b hb
      obtain ⟨a', ha'⟩ : ∃ c, x.data.toList[i + 1]? = some c := ⟨_, List.getElem?_eq_getElem (by rw [HSX.out]; omega)⟩
      have ix1 := index_ba x _ a' ha'
      obtain ⟨b', hb'⟩ : ∃ c, y.data.toList[j + 1]? = some c := ⟨_, List.getElem?_eq_getElem (by rw [HSY.out]; omega)⟩
      have iy1 := index_ba y _ b' hb'
      have e1 : (((i + 1 : Nat)) : Int) = (i : Int) + 1 := by omega
      have e2 : (((j + 1 : Nat)) : Int) = (j : Int) + 1 := by omega
      rw [e1] at ix1
      rw [e2] at iy1
      clear e1 e2
      have k2 : (i : Int) < (x.size : Int) := by omega
      have k3 : (j : Int) < (y.size : Int) := by omega
      have k4 : (i : Int) + 1 < (x.size : Int) := by omega
      have k5 : (j : Int) + 1 < (y.size : Int) := by omega
      have k6 : (0 : Int) ≤ (i : Int) + 1 := by omega
      have k7 : (0 : Int) ≤ (j : Int) + 1 := by omega
      by_cases he : a ≠ a'
      · by_cases hf : a = b'
        · by_cases hg : a' = b
          · have HF := hide (stepR_5y HV.out ha hb ha' hb' he hf hg)
            have e : ((a.toNat : Int) != (a'.toNat : Int)) = true := by rw [bne_iff_ne]; intro h; exact he (UInt8.toNat_inj.1 (by omega))
            have f : ((a.toNat : Int) == (b'.toNat : Int)) = true := by rw [hf]; simp
            have q : ((a'.toNat : Int) == (b.toNat : Int)) = true := by rw [hg]; simp
            clear he hf hg ha hb ha' hb'
            go_wp2_with fail
            go_quiet (fail)
            have HB2 := hide (HB1.out.next (below_drewN (Below.refl _ _) nq))
            clear d0 d1 d2 d3 d4 HB1
            generalize w1.drewN nq = w2 at *
            obtain ⟨d0, d1, d2, d3, d4⟩ := HB2.out.facts
            go_wp2_with fail
            go_quiet (fail)
            have HB3 := hide (HB2.out.next (below_drewN (Below.refl _ _) nq))
            clear d0 d1 d2 d3 d4 HB2
            generalize w2.drewN nq = w3 at *
            obtain ⟨d0, d1, d2, d3, d4⟩ := HB3.out.facts
            go_wp2_with fail
            go_quiet (fail)
            have HB4 := hide (HB3.out.next (below_drewN (Below.refl _ _) nq))
            clear d0 d1 d2 d3 d4 HB3
            generalize w3.drewN nq = w4 at *
            obtain ⟨d0, d1, d2, d3, d4⟩ := HB4.out.facts
            go_wp2_with fail
            refine bodyPost_ret (results_tmp4 rfl _ _ _) rfl ?_
            exact ⟨by rw [HF.out]; rfl, HB4.out.bel⟩
          · have HF := hide (stepR_5n (W := W) (x := x.data.toList) (y := y.data.toList) (i := i) (j := j) (fun hh => hg (UInt8.toNat_inj.1 (by have := hh.2.2.2.2; rw [at_of ha', at_of hb] at this; omega))))
            have e : ((a.toNat : Int) != (a'.toNat : Int)) = true := by rw [bne_iff_ne]; intro h; exact he (UInt8.toNat_inj.1 (by omega))
            have f : ((a.toNat : Int) == (b'.toNat : Int)) = true := by rw [hf]; simp
            have q : ((a'.toNat : Int) == (b.toNat : Int)) = false := by rw [beq_eq_false_iff_ne]; intro h; exact hg (UInt8.toNat_inj.1 (by omega))
            clear he hf hg ha hb ha' hb'
            go_wp2_with fail
            go_quiet (fail)
            have HB2 := hide (HB1.out.next (below_drewN (Below.refl _ _) nq))
            clear d0 d1 d2 d3 d4 HB1
            generalize w1.drewN nq = w2 at *
            obtain ⟨d0, d1, d2, d3, d4⟩ := HB2.out.facts
            go_wp2_with fail
            go_quiet (fail)
            have HB3 := hide (HB2.out.next (below_drewN (Below.refl _ _) nq))
            clear d0 d1 d2 d3 d4 HB2
            generalize w2.drewN nq = w3 at *
            obtain ⟨d0, d1, d2, d3, d4⟩ := HB3.out.facts
            go_wp2_with fail
            go_quiet (fail)
            have HB4 := hide (HB3.out.next (below_drewN (Below.refl _ _) nq))
            clear d0 d1 d2 d3 d4 HB3
            generalize w3.drewN nq = w4 at *
            obtain ⟨d0, d1, d2, d3, d4⟩ := HB4.out.facts
            go_wp2_with fail
            refine bodyPost_ret (results_tmp4 rfl _ _ _) rfl ?_
            exact ⟨by rw [HF.out]; rfl, HB4.out.bel⟩
        · have HF := hide (stepR_5n (W := W) (x := x.data.toList) (y := y.data.toList) (i := i) (j := j) (fun hh => hf (UInt8.toNat_inj.1 (by have := hh.2.2.2.1; rw [at_of ha, at_of hb'] at this; omega))))
          have e : ((a.toNat : Int) != (a'.toNat : Int)) = true := by rw [bne_iff_ne]; intro h; exact he (UInt8.toNat_inj.1 (by omega))
          have f : ((a.toNat : Int) == (b'.toNat : Int)) = false := by rw [beq_eq_false_iff_ne]; intro h; exact hf (UInt8.toNat_inj.1 (by omega))
          clear he hf ha hb ha' hb'
          go_wp2_with fail
          go_quiet (fail)
          have HB2 := hide (HB1.out.next (below_drewN (Below.refl _ _) nq))
          clear d0 d1 d2 d3 d4 HB1
          generalize w1.drewN nq = w2 at *
          obtain ⟨d0, d1, d2, d3, d4⟩ := HB2.out.facts
          go_wp2_with fail
          go_quiet (fail)
          have HB3 := hide (HB2.out.next (below_drewN (Below.refl _ _) nq))
          clear d0 d1 d2 d3 d4 HB2
          generalize w2.drewN nq = w3 at *
          obtain ⟨d0, d1, d2, d3, d4⟩ := HB3.out.facts
          go_wp2_with fail
          go_quiet (fail)
          have HB4 := hide (HB3.out.next (below_drewN (Below.refl _ _) nq))
          clear d0 d1 d2 d3 d4 HB3
          generalize w3.drewN nq = w4 at *
          obtain ⟨d0, d1, d2, d3, d4⟩ := HB4.out.facts
          go_wp2_with fail
          refine bodyPost_ret (results_tmp4 rfl _ _ _) rfl ?_
          exact ⟨by rw [HF.out]; rfl, HB4.out.bel⟩
      · have he := Classical.not_not.1 he
        have HF := hide (stepR_5n (W := W) (x := x.data.toList) (y := y.data.toList) (i := i) (j := j) (fun hh => hh.2.2.1 (by rw [at_of ha, at_of ha', he])))
        have e : ((a.toNat : Int) != (a'.toNat : Int)) = false := by rw [he]; simp
        clear he ha hb ha' hb'
        go_wp2_with fail
        go_quiet (fail)
        have HB2 := hide (HB1.out.next (below_drewN (Below.refl _ _) nq))
        clear d0 d1 d2 d3 d4 HB1
        generalize w1.drewN nq = w2 at *
        obtain ⟨d0, d1, d2, d3, d4⟩ := HB2.out.facts
        go_wp2_with fail
        go_quiet (fail)
        have HB3 := hide (HB2.out.next (below_drewN (Below.refl _ _) nq))
        clear d0 d1 d2 d3 d4 HB2
        generalize w2.drewN nq = w3 at *
        obtain ⟨d0, d1, d2, d3, d4⟩ := HB3.out.facts
        go_wp2_with fail
        go_quiet (fail)
        have HB4 := hide (HB3.out.next (below_drewN (Below.refl _ _) nq))
        clear d0 d1 d2 d3 d4 HB3
        generalize w3.drewN nq = w4 at *
        obtain ⟨d0, d1, d2, d3, d4⟩ := HB4.out.facts
        go_wp2_with fail
        refine bodyPost_ret (results_tmp4 rfl _ _ _) rfl ?_
        exact ⟨by rw [HF.out]; rfl, HB4.out.bel⟩
    · have g2 : decide ((1 : Int) < (r : Int)) = false := decide_eq_false (by omega)
      have g2' : decide (1 < r) = false := decide_eq_false (by omega)
      have HF := hide (stepR_5n (W := W) (x := x.data.toList) (y := y.data.toList) (i := i) (j := j) (fun hh => by have := hh.2.1; rw [HSY.out] at this; omega))
      clear hr
      go_wp2_with fail
      go_quiet (fail)
      have HB2 := hide (HB1.out.next (below_drewN (Below.refl _ _) nq))
      clear d0 d1 d2 d3 d4 HB1
      generalize w1.drewN nq = w2 at *
      obtain ⟨d0, d1, d2, d3, d4⟩ := HB2.out.facts
      go_wp2_with fail
      go_quiet (fail)
      have HB3 := hide (HB2.out.next (below_drewN (Below.refl _ _) nq))
      clear d0 d1 d2 d3 d4 HB2
      generalize w2.drewN nq = w3 at *
      obtain ⟨d0, d1, d2, d3, d4⟩ := HB3.out.facts
      go_wp2_with fail
      go_quiet (fail)
      have HB4 := hide (HB3.out.next (below_drewN (Below.refl _ _) nq))
      clear d0 d1 d2 d3 d4 HB3
      generalize w3.drewN nq = w4 at *
      obtain ⟨d0, d1, d2, d3, d4⟩ := HB4.out.facts
      go_wp2_with fail
      refine bodyPost_ret (results_tmp4 rfl _ _ _) rfl ?_
      exact ⟨by rw [HF.out]; rfl, HB4.out.bel⟩
  · have g1 : decide ((1 : Int) < (l : Int)) = false := decide_eq_false (by omega)
    have g1' : decide (1 < l) = false := decide_eq_false (by omega)
    have HF := hide (stepR_5n (W := W) (x := x.data.toList) (y := y.data.toList) (i := i) (j := j) (fun hh => by have := hh.1; rw [HSX.out] at this; omega))
    clear hl
    go_wp2_with fail
    go_quiet (fail)
    have HB2 := hide (HB1.out.next (below_drewN (Below.refl _ _) nq))
    clear d0 d1 d2 d3 d4 HB1
    generalize w1.drewN nq = w2 at *
    obtain ⟨d0, d1, d2, d3, d4⟩ := HB2.out.facts
    go_wp2_with fail
    go_quiet (fail)
    have HB3 := hide (HB2.out.next (below_drewN (Below.refl _ _) nq))
    clear d0 d1 d2 d3 d4 HB2
    generalize w2.drewN nq = w3 at *
    obtain ⟨d0, d1, d2, d3, d4⟩ := HB3.out.facts
    go_wp2_with fail
    go_quiet (fail)
    have HB4 := hide (HB3.out.next (below_drewN (Below.refl _ _) nq))
    clear d0 d1 d2 d3 d4 HB3
    generalize w3.drewN nq = w4 at *
    obtain ⟨d0, d1, d2, d3, d4⟩ := HB4.out.facts
    go_wp2_with fail
    refine bodyPost_ret (results_tmp4 rfl _ _ _) rfl ?_
    exact ⟨by rw [HF.out]; rfl, HB4.out.bel⟩
set_option maxRecDepth 100000 in
set_option maxHeartbeats 8000000 in
theorem rstep0_any (W : Wt) (hW : W.valid = true) (A : Option Addr) (n c X : Nat) (x y : ByteArray) (i j : Nat) (kind : Int) (hk : ¬ (1 ≤ kind ∧ kind ≤ 5)) (w : World) (hN : Near w X A n W.near) (hX0 : X ≤ w.heap.size) (hn : n ≤ 140737488355328) (hi : i ≤ x.size) (hj : j ≤ y.size) (hx : x.size ≤ 120) (hy : y.size ≤ 120) :
    Calls Try.prog 32 #[wval W A n c, .string x, .string y, .int .i64 (i : Int), .int .i64 (j : Int), .int .i64 kind] w fun e w' => e = .returned (stepV (stepR W x.data.toList y.data.toList i j kind)) ∧ Below w.heap.size w w' := by
  have HN := hide hN
  have HV := hide hW
  have HB1 := hide (Box.start w W A n c)
  have HSX : Hid (x.data.toList.length = x.size) := by show _ = _; simp
  have HSY : Hid (y.data.toList.length = y.size) := by show _ = _; simp
  obtain ⟨l, hl0⟩ : ∃ l, x.size - i = l := ⟨_, rfl⟩
  obtain ⟨r, hr0⟩ : ∃ r, y.size - j = r := ⟨_, rfl⟩
  have el : (x.size : Int) - (i : Int) = (l : Int) := by omega
  have er : (y.size : Int) - (j : Int) = (r : Int) := by omega
  have k0 : (0 : Int) ≤ (i : Int) := by omega
  have k1 : (0 : Int) ≤ (j : Int) := by omega
  clear hN hW
  go_enter Try.func32, Try.ntmps32
  unfold wval
  go_upto_region 3 with fail
  clear el er
  generalize w.alloc (.cells #[.int .i64 W.ins, .int .i64 W.del, .int .i64 W.chg, .int .i64 W.swp, .slice A n c] 24) = w1 at *
  obtain ⟨d0, d1, d2, d3, d4⟩ := HB1.out.facts
  have HF := hide (stepR_no (W := W) (x := x.data.toList) (y := y.data.toList) (i := i) (j := j) hk)
  have b1 : (kind == 1) = false := by rw [beq_eq_false_iff_ne]; intro h; exact hk (by omega)
  have b2 : (kind == 2) = false := by rw [beq_eq_false_iff_ne]; intro h; exact hk (by omega)
  have b3 : (kind == 3) = false := by rw [beq_eq_false_iff_ne]; intro h; exact hk (by omega)
  have b4 : (kind == 4) = false := by rw [beq_eq_false_iff_ne]; intro h; exact hk (by omega)
  have b5 : (kind == 5) = false := by rw [beq_eq_false_iff_ne]; intro h; exact hk (by omega)
  clear hk
  go_wp2_with fail
  go_quiet (fail)
  have HB2 := hide (HB1.out.next (below_drewN (Below.refl _ _) nq))
  clear d0 d1 d2 d3 d4 HB1
  generalize w1.drewN nq = w2 at *
  obtain ⟨d0, d1, d2, d3, d4⟩ := HB2.out.facts
  go_wp2_with fail
  go_quiet (fail)
  have HB3 := hide (HB2.out.next (below_drewN (Below.refl _ _) nq))
  clear d0 d1 d2 d3 d4 HB2
  generalize w2.drewN nq = w3 at *
  obtain ⟨d0, d1, d2, d3, d4⟩ := HB3.out.facts
  go_wp2_with fail
  go_quiet (fail)
  have HB4 := hide (HB3.out.next (below_drewN (Below.refl _ _) nq))
  clear d0 d1 d2 d3 d4 HB3
  generalize w3.drewN nq = w4 at *
  obtain ⟨d0, d1, d2, d3, d4⟩ := HB4.out.facts
  go_wp2_with fail
  refine bodyPost_ret (results_tmp4 rfl _ _ _) rfl ?_
  exact ⟨by rw [HF.out]; rfl, HB4.out.bel⟩
theorem rstep_any (W : Wt) (hW : W.valid = true) (A : Option Addr) (n c X : Nat) (x y : ByteArray) (i j : Nat) (kind : Int) (w : World) (hN : Near w X A n W.near) (hX0 : X ≤ w.heap.size) (hn : n ≤ 140737488355328) (hi : i ≤ x.size) (hj : j ≤ y.size) (hx : x.size ≤ 120) (hy : y.size ≤ 120) :
    Calls Try.prog 32 #[wval W A n c, .string x, .string y, .int .i64 (i : Int), .int .i64 (j : Int), .int .i64 kind] w fun e w' => e = .returned (stepV (stepR W x.data.toList y.data.toList i j kind)) ∧ Below w.heap.size w w' := by
  by_cases hk : 1 ≤ kind ∧ kind ≤ 5
  · have h : kind = 1 ∨ kind = 2 ∨ kind = 3 ∨ kind = 4 ∨ kind = 5 := by omega
    rcases h with rfl | rfl | rfl | rfl | rfl
    · exact rstep1_any W hW A n c X x y i j w hN hX0 hn hi hj hx hy
    · exact rstep2_any W hW A n c X x y i j w hN hX0 hn hi hj hx hy
    · exact rstep3_any W hW A n c X x y i j w hN hX0 hn hi hj hx hy
    · exact rstep4_any W hW A n c X x y i j w hN hX0 hn hi hj hx hy
    · exact rstep5_any W hW A n c X x y i j w hN hX0 hn hi hj hx hy
  · exact rstep0_any W hW A n c X x y i j kind hk w hN hX0 hn hi hj hx hy
end Go.Proofs.Ytnpdhbagfkilkaa

/- The reference of layer 18: Table. -/
set_option linter.unusedVariables false
set_option linter.unusedSimpArgs false
namespace Go.Proofs.Ytnpdhbagfkilkaa
open Go.RowKit

/-- the outer row of a table whose rows from lo on are there -/
def rtop (R : Nat → Nat) (N M lo : Nat) : Array Value := ((List.range N).map fun i => if lo ≤ i then Value.slice (some ⟨R i, 0, none⟩) M M else .slice none 0 0).toArray
theorem rtop_get {R : Nat → Nat} {N M lo i : Nat} (h : i < N) : (rtop R N M lo)[i]? = some (if lo ≤ i then Value.slice (some ⟨R i, 0, none⟩) M M else .slice none 0 0) := by simp [rtop, h]
theorem rtop_made (R : Nat → Nat) (N M : Nat) : madeCells #[Value.slice none 0 0] N = rtop R N M N := by
  rw [slots_made 0 N M]
  unfold slots rtop
  congr 1
  refine List.map_congr_left fun i hi => ?_
  rw [List.mem_range] at hi
  rw [if_neg (by omega), if_neg (by omega)]
theorem rtop_set {R : Nat → Nat} {N M i b : Nat} (h : i < N) : (rtop R N M (i + 1)).setIfInBounds i (.slice (some ⟨b, 0, none⟩) M M) = rtop (fun k => if k = i then b else R k) N M i := by
  apply Array.ext_getElem?
  intro j
  rw [Array.getElem?_setIfInBounds]
  have hs : (rtop R N M (i + 1)).size = N := by simp [rtop]
  by_cases e : i = j
  · subst e
    rw [if_pos rfl, hs, if_pos h, rtop_get h, if_pos (Nat.le_refl _), if_pos rfl]
  · rw [if_neg e]
    by_cases hj : j < N
    · rw [rtop_get hj, rtop_get hj, if_neg (Ne.symm e)]
      by_cases h1 : i + 1 ≤ j
      · rw [if_pos h1, if_pos (by omega)]
      · rw [if_neg h1, if_neg (by omega)]
    · rw [Array.getElem?_eq_none (by simp [rtop]; omega), Array.getElem?_eq_none (by simp [rtop]; omega)]
/-- the reference's table under way: its rows lie anywhere -/
structure TabR (wr w : World) (W : Wt) (A : Option Addr) (n c xs ys : Nat) (R : Nat → Nat) (lo : Nat) (f : Nat → Nat → Int) : Prop where
  box : Box wr w W A n c
  top : Blk wr (w.heap.size + 1) 25 (rtop R (xs + 1) (ys + 1) lo)
  row : ∀ i, lo ≤ i → i ≤ xs → Blk wr (R i) 3 (rowArr (f i) (ys + 1))
  hT : ∀ i, lo ≤ i → i ≤ xs → w.heap.size + 1 < R i
  hD : ∀ i i', lo ≤ i → i < i' → i' ≤ xs → R i ≠ R i'
section
variable {wr w w' : World} {W : Wt} {A : Option Addr} {n c xs ys lo : Nat} {R : Nat → Nat} {f : Nat → Nat → Int}
theorem TabR.to (h : TabR wr w W A n c xs ys R lo f) (hb : Below wr.heap.size wr w') : TabR w' w W A n c xs ys R lo f :=
  ⟨h.box.next hb, h.top.to hb, fun i h1 h2 => (h.row i h1 h2).to hb, h.hT, h.hD⟩
theorem TabR.slot (h : TabR wr w W A n c xs ys R lo f) {i : Nat} (h1 : lo ≤ i) (h2 : i ≤ xs) : wr.cell? ⟨w.heap.size + 1, i, none⟩ = some (.slice (some ⟨R i, 0, none⟩) (ys + 1) (ys + 1)) := by
  rw [h.top.cell, rtop_get (by omega), if_pos h1]
theorem TabR.cell (h : TabR wr w W A n c xs ys R lo f) {i j : Nat} (h1 : lo ≤ i) (h2 : i ≤ xs) (hj : j ≤ ys) : wr.cell? ⟨R i, j, none⟩ = some (.int .i64 (f i j)) := by
  rw [(h.row i h1 h2).cell, rowArr_get _ (by omega)]
theorem TabR.new {i : Nat} (h : TabR wr w W A n c xs ys R (i + 1) f) (hi : i ≤ xs) :
    TabR ((wr.setCell ⟨w.heap.size + 1, i, none⟩ (.slice (some ⟨wr.heap.size, 0, none⟩) (ys + 1) (ys + 1))).alloc (.cells (madeCells #[.int .i64 0] (ys + 1)) 3)) w W A n c xs ys (fun k => if k = i then wr.heap.size else R k) i (fun k j => if k = i then 0 else f k j) := by
  have hTl : w.heap.size + 1 < wr.heap.size := h.top.lt
  have hlt : ∀ k, i + 1 ≤ k → k ≤ xs → R k < wr.heap.size := fun k a b => (h.row k a b).lt
  have hsz : (wr.setCell ⟨w.heap.size + 1, i, none⟩ (.slice (some ⟨wr.heap.size, 0, none⟩) (ys + 1) (ys + 1))).heap.size = wr.heap.size := World.size_setCell ..
  refine ⟨⟨(h.box.blk.far (p := ⟨w.heap.size + 1, i, none⟩) (by show w.heap.size ≠ w.heap.size + 1; omega) _).alloc _, (h.box.bel.setCell (p := ⟨w.heap.size + 1, i, none⟩) (by show w.heap.size ≤ w.heap.size + 1; omega) _).alloc (by rw [hsz]; omega) _⟩, ?_, fun k a b => ?_, fun k a b => ?_, fun k k' a b d => ?_⟩
  · rw [← rtop_set (by omega)]
    exact (h.top.set_ i _).alloc _
  · by_cases e : k = i
    · rw [if_pos e]
      have e2 : (fun j => if k = i then (0 : Int) else f k j) = fun _ => 0 := by funext j; rw [if_pos e]
      rw [e2, ← rowArr_made]
      have := Blk.new (wr.setCell ⟨w.heap.size + 1, i, none⟩ (.slice (some ⟨wr.heap.size, 0, none⟩) (ys + 1) (ys + 1))) 3 (madeCells #[.int .i64 0] (ys + 1))
      rwa [hsz] at this
    · rw [if_neg e]
      have e2 : (fun j => if k = i then (0 : Int) else f k j) = f k := by funext j; rw [if_neg e]
      rw [e2]
      exact ((h.row k (by omega) b).far (p := ⟨w.heap.size + 1, i, none⟩) (by show R k ≠ w.heap.size + 1; have := h.hT k (by omega) b; omega) _).alloc _
  · by_cases e : k = i
    · simp only [e, if_true]; exact hTl
    · simp only [e, if_false]; exact h.hT k (by omega) b
  · have e' : ¬ k' = i := by omega
    by_cases e : k = i
    · simp only [e, e', if_true, if_false]; have := hlt k' (by omega) d; omega
    · simp only [e, e', if_false]; exact h.hD k k' (by omega) b d
theorem TabR.put (h : TabR wr w W A n c xs ys R lo f) {i j : Nat} (h1 : lo ≤ i) (h2 : i ≤ xs) (v : Int) :
    TabR (wr.setCell ⟨R i, j, none⟩ (.int .i64 v)) w W A n c xs ys R lo (fun p q => if p = i ∧ q = j then v else f p q) := by
  have hT := h.hT i h1 h2
  refine ⟨⟨h.box.blk.far (p := ⟨R i, j, none⟩) (by show w.heap.size ≠ R i; omega) _, h.box.bel.setCell (p := ⟨R i, j, none⟩) (by show w.heap.size ≤ R i; omega) _⟩, h.top.far (p := ⟨R i, j, none⟩) (by show w.heap.size + 1 ≠ R i; omega) _, fun k a b => ?_, h.hT, h.hD⟩
  by_cases e : k = i
  · subst e
    have := (h.row k a b).set_ j (.int .i64 v)
    rw [rowArr_set] at this
    have e2 : (fun q => if k = k ∧ q = j then v else f k q) = fun q => if q = j then v else f k q := by funext q; simp
    rw [e2]; exact this
  · have e2 : (fun q => if k = i ∧ q = j then v else f k q) = f k := by funext q; simp [e]
    rw [e2]
    refine (h.row k a b).far (p := ⟨R i, j, none⟩) ?_ _
    show R k ≠ R i
    rcases Nat.lt_or_ge k i with h3 | h3
    · exact h.hD k i a h3 h2
    · exact Ne.symm (h.hD i k h1 (by omega) b)
end
/-- the rows from q on, and of the row before those from p on, are done -/
def FT (wr w : World) (W : Wt) (A : Option Addr) (n c : Nat) (x y : ByteArray) (D : Nat → Nat → Int) (lo q p : Nat) : Prop :=
  ∃ R f, TabR wr w W A n c x.size y.size R lo f ∧ ∀ i j, i ≤ x.size → j ≤ y.size → lo ≤ i → (q ≤ i ∨ (i + 1 = q ∧ p ≤ j)) → f i j = D i j
section
variable {wr w w' : World} {W : Wt} {A : Option Addr} {n c lo q p : Nat} {x y : ByteArray} {D : Nat → Nat → Int}
theorem FT.to (h : FT wr w W A n c x y D lo q p) (hb : Below wr.heap.size wr w') : FT w' w W A n c x y D lo q p := by
  obtain ⟨R, f, h1, h2⟩ := h
  exact ⟨R, f, h1.to hb, h2⟩
theorem FT.box (h : FT wr w W A n c x y D lo q p) : Box wr w W A n c := by
  obtain ⟨R, f, h1, h2⟩ := h
  exact h1.box
theorem FT.cells (h : FT wr w W A n c x y D lo q p) {i j : Nat} (hl : lo ≤ i) (hi : i ≤ x.size) (hj : j ≤ y.size) (hq : q ≤ i ∨ (i + 1 = q ∧ p ≤ j)) :
    ∃ b, wr.cell? ⟨w.heap.size + 1, i, none⟩ = some (.slice (some ⟨b, 0, none⟩) (y.size + 1) (y.size + 1)) ∧ wr.cell? ⟨b, j, none⟩ = some (.int .i64 (D i j)) := by
  obtain ⟨R, f, h1, h2⟩ := h
  exact ⟨R i, h1.slot hl hi, by rw [h1.cell hl hi hj, h2 i j hi hj hl hq]⟩
theorem FT.put {i j : Nat} (h : FT wr w W A n c x y D i (i + 1) (j + 1)) (hi : i ≤ x.size) (hj : j ≤ y.size) {v : Int} (hv : v = D i j) :
    ∃ b, wr.cell? ⟨w.heap.size + 1, i, none⟩ = some (.slice (some ⟨b, 0, none⟩) (y.size + 1) (y.size + 1)) ∧ (∃ u, wr.cell? ⟨b, j, none⟩ = some (.int .i64 u)) ∧ wr.frozen? ⟨b, j, none⟩ = false ∧ FT (wr.setCell ⟨b, j, none⟩ (.int .i64 v)) w W A n c x y D i (i + 1) j := by
  obtain ⟨R, f, h1, h2⟩ := h
  refine ⟨R i, h1.slot (Nat.le_refl _) hi, ⟨_, h1.cell (Nat.le_refl _) hi hj⟩, (h1.row i (Nat.le_refl _) hi).frozen _, R, _, h1.put (Nat.le_refl _) hi v, fun i' j' a b d e => ?_⟩
  by_cases e' : i' = i ∧ j' = j
  · rw [if_pos e', e'.1, e'.2]; exact hv
  · rw [if_neg e']; exact h2 i' j' a b d (by omega)
theorem FT.row {i : Nat} (h : FT wr w W A n c x y D i (i + 1) 0) : FT wr w W A n c x y D i i (y.size + 1) := by
  obtain ⟨R, f, h1, h2⟩ := h
  exact ⟨R, f, h1, fun i' j' a b d e => h2 i' j' a b d (by omega)⟩
theorem FT.new {i : Nat} (h : FT wr w W A n c x y D (i + 1) (i + 1) (y.size + 1)) (hi : i ≤ x.size) :
    (∃ u, wr.cell? ⟨w.heap.size + 1, i, none⟩ = some u) ∧ wr.frozen? ⟨w.heap.size + 1, i, none⟩ = false ∧ w.heap.size + 1 < wr.heap.size ∧
    FT ((wr.setCell ⟨w.heap.size + 1, i, none⟩ (.slice (some ⟨wr.heap.size, 0, none⟩) (y.size + 1) (y.size + 1))).alloc (.cells (madeCells #[.int .i64 0] (y.size + 1)) 3)) w W A n c x y D i (i + 1) (y.size + 1) := by
  obtain ⟨R, f, h1, h2⟩ := h
  refine ⟨⟨_, by rw [h1.top.cell, rtop_get (by omega)]⟩, h1.top.frozen _, h1.top.lt, _, _, h1.new hi, fun i' j' a b d e => ?_⟩
  rw [if_neg (by omega)]
  exact h2 i' j' a b (by omega) (by omega)
end
theorem best_bounds {W : Wt} (hW : W.valid = true) {x y : ByteArray} {D : Nat → Nat → Int} (hD : W.IsDist x.data.toList y.data.toList D) {i j : Nat} (hi : i ≤ x.size) (hj : j ≤ y.size) : ∀ k, k ≤ 6 → -1 ≤ bestOf W x y D i j k ∧ bestOf W x y D i j k ≤ 1001000
  | 0, _ => by rw [bestOf_zero]; omega
  | k + 1, hk => by
    have ih := best_bounds hW hD hi hj k (by omega)
    have hl : k < (W.steps x.data.toList y.data.toList i j).length := by rw [steps_length]; omega
    rw [bestOf_succ (List.getElem?_eq_getElem hl)]
    have hf := Wt.steps_fit hW (x := x.data.toList) (y := y.data.toList) (i := i) (j := j) (by simpa using hi) (by simpa using hj) _ (List.getElem_mem hl)
    generalize (W.steps x.data.toList y.data.toList i j)[k] = s at *
    unfold Wt.bestStep
    by_cases hn : s.1 < 0
    · rw [if_pos hn]; exact ih
    · rw [if_neg hn]
      have hf2 : s.1 ≤ 1000 ∧ 0 ≤ s.2.1 ∧ 0 ≤ s.2.2 ∧ 0 < s.2.1 + s.2.2 ∧ i + s.2.1 ≤ x.size ∧ j + s.2.2 ≤ y.size := by simpa using hf.resolve_left hn
      have q1 := hD.lo (i + s.2.1.toNat) (j + s.2.2.toNat)
      have q2 := hD.hi (i + s.2.1.toNat) (j + s.2.2.toNat) (by simp; omega) (by simp; omega)
      unfold Wt.better
      split <;> omega
theorem steps_at {W : Wt} {x y : List UInt8} {i j k : Nat} (hk : k < 6) : (W.steps x y i j)[k]? = some (Wt.stp W x y i j k) := by
  have hl : k < (W.steps x y i j).length := hk
  rw [List.getElem?_eq_getElem hl]
  unfold Wt.stp
  rw [List.getElem?_eq_getElem hl]; rfl
theorem ft_j {wr w : World} {W : Wt} {A : Option Addr} {n c i j : Nat} {x y : ByteArray} {D : Nat → Nat → Int} (hj : j ≤ y.size) (h : FT wr w W A n c x y D i (i + 1) j) : (∃ j' : Nat, j' ≤ y.size ∧ Value.int .i64 ((j : Int) - 1) = .int .i64 (j' : Int) ∧ FT wr w W A n c x y D i (i + 1) (j' + 1)) ∨ (Value.int .i64 ((j : Int) - 1) = .int .i64 (-1) ∧ FT wr w W A n c x y D i (i + 1) 0) := by
  cases j with
  | zero => exact .inr ⟨vint (by omega), h⟩
  | succ j => exact .inl ⟨j, by omega, vint (by omega), h⟩
theorem ft_i {wr w : World} {W : Wt} {A : Option Addr} {n c i : Nat} {x y : ByteArray} {D : Nat → Nat → Int} (hi : i ≤ x.size) (h : FT wr w W A n c x y D i i (y.size + 1)) : (∃ i' : Nat, i' ≤ x.size ∧ Value.int .i64 ((i : Int) - 1) = .int .i64 (i' : Int) ∧ FT wr w W A n c x y D (i' + 1) (i' + 1) (y.size + 1)) ∨ (Value.int .i64 ((i : Int) - 1) = .int .i64 (-1) ∧ FT wr w W A n c x y D 0 0 (y.size + 1)) := by
  cases i with
  | zero => exact .inr ⟨vint (by omega), h⟩
  | succ i => exact .inl ⟨i, by omega, vint (by omega), h⟩
set_option maxRecDepth 100000 in
set_option maxHeartbeats 8000000 in
theorem rtable_any (W : Wt) (hW : W.valid = true) (A : Option Addr) (n c X : Nat) (x y : ByteArray) (w : World) (hN : Near w X A n W.near) (hX0 : X ≤ w.heap.size) (hn : n ≤ 140737488355328) (hx : x.size ≤ 120) (hy : y.size ≤ 120) (D : Nat → Nat → Int) (hD : W.IsDist x.data.toList y.data.toList D) :
    Calls Try.prog 30 #[wval W A n c, .string x, .string y] w fun e w' => e = .returned (.slice (some ⟨w.heap.size + 1, 0, none⟩) (x.size + 1) (x.size + 1)) ∧ FT w' w W A n c x y D 0 0 (y.size + 1) := by
  have HN := hide hN
  have HW := hide hW
  have HD := hide hD
  have HB := hide (Box.start w W A n c)
  have hmk := fun w => run_make_any (P := Try.prog) Try.underlying46 info_ints rfl (N := (x.size : Int) + 1) (n := x.size + 1) (by omega) (by omega) (by omega) w
  have hmr := fun w => run_make_any (P := Try.prog) Try.underlying25 info_int rfl (N := (y.size : Int) + 1) (n := y.size + 1) (by omega) (by omega) (by omega) w
  clear hN hW hD
  go_enter Try.func30, Try.ntmps30
  unfold wval
  go_upto_region 1 with fail
  have hsz1 : (w.alloc (.cells #[.int .i64 W.ins, .int .i64 W.del, .int .i64 W.chg, .int .i64 W.swp, .slice A n c] 24)).heap.size = w.heap.size + 1 := by simp
  generalize w.alloc (.cells #[.int .i64 W.ins, .int .i64 W.del, .int .i64 W.chg, .int .i64 W.swp, .slice A n c] 24) = w1 at *
  have HF0 : Hid (FT (w1.alloc (.cells (madeCells #[.slice none 0 0] (x.size + 1)) 25)) w W A n c x y D (x.size + 1) (x.size + 1) (y.size + 1)) := by
    refine ⟨fun _ => 0, fun _ _ => 0, ⟨HB.out.next (below_one8 _ _), ?_, fun i h1 h2 => by omega, fun i h1 h2 => by omega, fun i i' h1 h2 h3 => by omega⟩, fun i j h1 h2 h3 h4 => by omega⟩
    rw [← rtop_made, ← hsz1]
    exact Blk.new _ _ _
  have HS1 := hide hsz1
  go_upto_region 2 with fail
  clear hmk hsz1 HB
  generalize w1.alloc (.cells (madeCells #[.slice none 0 0] (x.size + 1)) 25) = w2 at *
  go_wp2_with fail
  go_loopw [8] (fun t8 wr => (∃ i : Nat, i ≤ x.size ∧ t8 = .int .i64 (i : Int) ∧ FT wr w W A n c x y D (i + 1) (i + 1) (y.size + 1)) ∨ (t8 = .int .i64 (-1) ∧ FT wr w W A n c x y D 0 0 (y.size + 1))) (fun t8 _ => (intOf t8 + 1).toNat)
  case atStart => exact .inl ⟨x.size, Nat.le_refl _, rfl, HF0.out⟩
  case round =>
    clear HF0
    rcases hrel with ⟨i, hi, rfl, hF⟩ | ⟨rfl, hF⟩
    · obtain ⟨⟨u, cu⟩, fu, hlt, hnew⟩ := hF.new hi
      have HNW := hide hnew
      have hz1 : w.heap.size + 1 ≠ wr.heap.size := by omega
      have g1 : decide ((0 : Int) ≤ (i : Int)) = true := decide_eq_true (by omega)
      have k0 : (0 : Int) ≤ (i : Int) := by omega
      have k1 : (i : Int) < (x.size : Int) + 1 := by omega
      clear hF hnew
      go_upto_region 6 with fail
      clear cu fu hlt hz1
      generalize (wr.setCell ⟨w.heap.size + 1, i, none⟩ (.slice (some ⟨wr.heap.size, 0, none⟩) (y.size + 1) (y.size + 1))).alloc (.cells (madeCells #[.int .i64 0] (y.size + 1)) 3) = w4 at *
      go_wp2_with fail
      go_loopw [9] (fun t9 wr => (∃ j : Nat, j ≤ y.size ∧ t9 = .int .i64 (j : Int) ∧ FT wr w W A n c x y D i (i + 1) (j + 1)) ∨ (t9 = .int .i64 (-1) ∧ FT wr w W A n c x y D i (i + 1) 0)) (fun t9 _ => (intOf t9 + 1).toNat)
      case atStart => exact .inl ⟨y.size, Nat.le_refl _, rfl, HNW.out⟩
      case round =>
        clear HNW
        rcases hrel with ⟨j, hj, rfl, hF⟩ | ⟨rfl, hF⟩
        · have HF := hide hF
          have h1 : decide ((0 : Int) ≤ (j : Int)) = true := decide_eq_true (by omega)
          clear hF
          go_wp2_with fail
          go_loopw [10, 11] (fun t10 t11 wr => ∃ (k : Nat) (b : Int), (1 ≤ k ∧ k ≤ 6) ∧ t11 = .int .i64 (k : Int) ∧ t10 = .int .i64 b ∧ b = bestOf W x y D i j k ∧ FT wr w W A n c x y D i (i + 1) (j + 1)) (fun _ t11 _ => 6 - (intOf t11).toNat)
          case atStart => exact ⟨1, -1, by omega, rfl, rfl, rfl, HF.out⟩
          case round =>
            clear HF
            obtain ⟨k, b, hk, rfl, rfl, hb, hF⟩ := hrel
            have HR := hide hF
            have hbb := best_bounds HW.out HD.out hi hj k hk.2
            rw [← hb] at hbb
            have Hb := hide hb
            obtain ⟨d0, d1, d2, d3, d4⟩ := hF.box.facts
            clear hb hF
            by_cases hk6 : k < 6
            · have t1 : decide ((k : Int) ≤ (5 : Int)) = true := decide_eq_true (by omega)
              have HSR : Hid (stepR W x.data.toList y.data.toList i j (k : Int) = if (Wt.stp W x.data.toList y.data.toList i j k).1 < 0 then (0, 0, 0, false) else ((Wt.stp W x.data.toList y.data.toList i j k).1, (Wt.stp W x.data.toList y.data.toList i j k).2.1, (Wt.stp W x.data.toList y.data.toList i j k).2.2, true)) := stepR_k hk.1 (by omega) rfl
              have HBS := hide (bestOf_succ (D := D) (steps_at (W := W) (x := x.data.toList) (y := y.data.toList) (i := i) (j := j) hk6))
              have hfit := Wt.stp_fits HW.out (x := x.data.toList) (y := y.data.toList) (i := i) (j := j) (by simpa using hi) (by simpa using hj) hk6
              generalize Wt.stp W x.data.toList y.data.toList i j k = s at *
              obtain ⟨sc, sa, sb⟩ := s
              by_cases hneg : sc < 0
              · have HV : Hid (stepR W x.data.toList y.data.toList i j (k : Int) = (0, 0, 0, false)) := by show _ = _; rw [HSR.out, if_pos hneg]
                have HB2 : Hid (bestOf W x y D i j (k + 1) = b) := by show _ = _; rw [HBS.out, ← Hb.out]; unfold Wt.bestStep; rw [if_pos hneg]
                clear hfit hneg
                go_wp2_with fail
                refine (rstep_any W HW.out A n c X x y i j (k : Int) wr (HN.out.below HR.out.box.bel hX0) (by have := HR.out.box.bel.size; omega) hn hi hj hx hy).mono ?_
                rintro e w1 ⟨rfl, hb1⟩
                have HF1 := hide (HR.out.to hb1)
                clear hb1 HR d0 d1 d2 d3 d4
                rw [HV.out]
                unfold stepV
                go_wp2_with fail
                go_roundw
                case rel => exact ⟨k + 1, b, by omega, by go_num, rfl, HB2.out.symm, HF1.out⟩
                case measure => simp [intOf] <;> omega
              · have hf : sc ≤ 1000 ∧ 0 ≤ sa ∧ 0 ≤ sb ∧ 0 < sa + sb ∧ i + sa ≤ x.size ∧ j + sb ≤ y.size := by simpa using hfit.resolve_left hneg
                obtain ⟨f1, f2, f3, f4, f5, f6⟩ := hf
                obtain ⟨na, rfl⟩ := Int.eq_ofNat_of_zero_le f2
                obtain ⟨nb, rfl⟩ := Int.eq_ofNat_of_zero_le f3
                have hi2 : i + na ≤ x.size := by omega
                have hj2 : j + nb ≤ y.size := by omega
                have q1 := HD.out.lo (i + na) (j + nb)
                have q2 := HD.out.hi (i + na) (j + nb) (by simpa using hi2) (by simpa using hj2)
                have HV : Hid (stepR W x.data.toList y.data.toList i j (k : Int) = (sc, (na : Int), (nb : Int), true)) := by show _ = _; rw [HSR.out, if_neg hneg]
                have HB1 : Hid (bestOf W x y D i j (k + 1) = Wt.better b (sc + D (i + na) (j + nb))) := by show _ = _; rw [HBS.out, ← Hb.out]; unfold Wt.bestStep; rw [if_neg hneg]; rfl
                have hsc0 : 0 ≤ sc := by omega
                clear hfit hneg HSR HBS
                go_wp2_with fail
                refine (rstep_any W HW.out A n c X x y i j (k : Int) wr (HN.out.below HR.out.box.bel hX0) (by have := HR.out.box.bel.size; omega) hn hi hj hx hy).mono ?_
                rintro e w1 ⟨rfl, hb1⟩
                have HF1 := hide (HR.out.to hb1)
                clear hb1 HR d0 d1 d2 d3 d4
                rw [HV.out]
                unfold stepV
                obtain ⟨bR, p1, p2⟩ := HF1.out.cells (i := i + na) (j := j + nb) (by omega) hi2 hj2 (by omega)
                obtain ⟨iz, hiz⟩ : ∃ z, i + na = z := ⟨_, rfl⟩
                obtain ⟨jz, hjz⟩ : ∃ z, j + nb = z := ⟨_, rfl⟩
                have ei : (i : Int) + (na : Int) = (iz : Int) := by omega
                have ej : (j : Int) + (nb : Int) = (jz : Int) := by omega
                rw [hiz] at p1 p2 HB1 q1 q2
                rw [hjz] at p2 HB1 q1 q2
                rw [hiz] at hi2
                rw [hjz] at hj2
                have HIZ := hide hiz
                have HJZ := hide hjz
                clear hiz hjz
                have s1 : (0 : Int) ≤ (iz : Int) := by omega
                have s2 : (iz : Int) < (x.size : Int) + 1 := by omega
                have s3 : (0 : Int) ≤ (jz : Int) := by omega
                have s4 : (jz : Int) < (y.size : Int) + 1 := by omega
                generalize D iz jz = dv at *
                have s9 : -9223372036854775808 ≤ sc + dv ∧ sc + dv ≤ 9223372036854775807 := by omega
                by_cases t1 : b < 0
                · have g2 : decide (b < (0 : Int)) = true := decide_eq_true t1
                  have HS2 : Hid (bestOf W x y D i j (k + 1) = sc + dv) := by show _ = _; rw [HB1.out]; unfold Wt.better; rw [if_pos (.inl t1)]
                  clear t1
                  go_wp2_with fail
                  go_roundw
                  case rel => exact ⟨k + 1, sc + dv, by omega, by go_num, rfl, HS2.out.symm, HF1.out⟩
                  case measure => simp [intOf] <;> omega
                · have g2 : decide (b < (0 : Int)) = false := decide_eq_false t1
                  by_cases t2 : sc + dv < b
                  · have g3 : decide (sc + dv < b) = true := decide_eq_true t2
                    have HS2 : Hid (bestOf W x y D i j (k + 1) = sc + dv) := by show _ = _; rw [HB1.out]; unfold Wt.better; rw [if_pos (.inr t2)]
                    clear t1 t2
                    go_wp2_with fail
                    go_roundw
                    case rel => exact ⟨k + 1, sc + dv, by omega, by go_num, rfl, HS2.out.symm, HF1.out⟩
                    case measure => simp [intOf] <;> omega
                  · have g3 : decide (sc + dv < b) = false := decide_eq_false t2
                    have HS2 : Hid (bestOf W x y D i j (k + 1) = b) := by show _ = _; rw [HB1.out]; unfold Wt.better; rw [if_neg (by omega)]
                    clear t1 t2
                    go_wp2_with fail
                    go_roundw
                    case rel => exact ⟨k + 1, b, by omega, by go_num, rfl, HS2.out.symm, HF1.out⟩
                    case measure => simp [intOf] <;> omega
            · obtain rfl : k = 6 := by omega
              have t1 : decide (((6 : Nat) : Int) ≤ (5 : Int)) = false := by decide
              have HM := hide (bestOf_six HD.out hi hj)
              rw [← Hb.out] at HM
              clear d0 d1 d2 d3 d4
              by_cases t2 : b < 0
              · have g2 : decide (b < (0 : Int)) = true := decide_eq_true t2
                have HZ : Hid ((0 : Int) = D i j) := by show _ = _; rw [← HM.out]; omega
                obtain ⟨bR, p1, ⟨u, p2⟩, p3, hput⟩ := HR.out.put hi hj HZ.out
                have HP := hide hput
                have s1 : (0 : Int) ≤ (i : Int) := by omega
                have s2 : (i : Int) < (x.size : Int) + 1 := by omega
                have s3 : (0 : Int) ≤ (j : Int) := by omega
                have s4 : (j : Int) < (y.size : Int) + 1 := by omega
                clear hput t2 HR
                go_wp2_with fail
                clear p1 p2 p3
                generalize wr.setCell ⟨bR, j, none⟩ (.int .i64 0) = w7 at *
                go_roundw
                case rel => exact ft_j hj HP.out
                case measure => simp [intOf] <;> omega
              · have g2 : decide (b < (0 : Int)) = false := decide_eq_false t2
                have HZ : Hid (b = D i j) := by show _ = _; rw [← HM.out]; omega
                obtain ⟨bR, p1, ⟨u, p2⟩, p3, hput⟩ := HR.out.put hi hj HZ.out
                have HP := hide hput
                have s1 : (0 : Int) ≤ (i : Int) := by omega
                have s2 : (i : Int) < (x.size : Int) + 1 := by omega
                have s3 : (0 : Int) ≤ (j : Int) := by omega
                have s4 : (j : Int) < (y.size : Int) + 1 := by omega
                clear hput t2 HR HZ
                go_wp2_with fail
                clear p1 p2 p3
                generalize wr.setCell ⟨bR, j, none⟩ (.int .i64 b) = w7 at *
                go_roundw
                case rel => exact ft_j hj HP.out
                case measure => simp [intOf] <;> omega
        · have HF := hide hF.row
          have h1 : decide ((0 : Int) ≤ (-1 : Int)) = false := by decide
          clear hF
          go_wp2_with fail
          go_roundw
          case rel => exact ft_i hi HF.out
          case measure => simp [intOf] <;> omega
    · have HF := hide hF
      have h1 : decide ((0 : Int) ≤ (-1 : Int)) = false := by decide
      clear hF
      go_wp2_with fail
      go_ret
      exact ⟨rfl, HF.out⟩
end Go.Proofs.Ytnpdhbagfkilkaa

/- The reference of layer 18: Distance, Check. -/
set_option linter.unusedVariables false
set_option linter.unusedSimpArgs false
namespace Go.Proofs.Ytnpdhbagfkilkaa
open Go.RowKit

theorem ok3_n1 {W : Wt} {x y : List UInt8} (h : W.valid = false) : ok3 W x y = false := by simp [ok3, h]
theorem ok3_n2 {W : Wt} {x y : List UInt8} (h : okText x = false) : ok3 W x y = false := by simp [ok3, h]
theorem ok3_n3 {W : Wt} {x y : List UInt8} (h : okText y = false) : ok3 W x y = false := by simp [ok3, h]
theorem ok3_yes {W : Wt} {x y : List UInt8} (h1 : W.valid = true) (h2 : okText x = true) (h3 : okText y = true) : ok3 W x y = true := by simp [ok3, h1, h2, h3]
theorem dist_no {W : Wt} {x y : List UInt8} (h : ok3 W x y = false) : dist W x y = 0 ∧ errn (ok3 W x y) = 1 := by simp [dist, errn, h]
theorem dist_yes {W : Wt} {x y : List UInt8} (h : ok3 W x y = true) : dist W x y = W.D x y 0 0 ∧ errn (ok3 W x y) = 0 := by simp [dist, errn, h]
theorem check_no {W : Wt} {x y : List UInt8} {l : List Int} (h : ok3 W x y = false) : Wt.check W x y l = none := by simp [Wt.check, h]
set_option maxRecDepth 100000 in
set_option maxHeartbeats 8000000 in
theorem rdistance_any (W : Wt) (A : Option Addr) (n c X : Nat) (x y : ByteArray) (w : World) (hN : Near w X A n W.near) (hX0 : X ≤ w.heap.size) (hn : n ≤ 140737488355328) (hx : x.size ≤ maxLen) (hy : y.size ≤ maxLen) :
    Calls Try.prog 13 #[wval W A n c, .string x, .string y] w fun e w' => e = .returned (.tuple #[.int .i64 (dist W x.data.toList y.data.toList), .int .i64 (errn (ok3 W x.data.toList y.data.toList))]) ∧ Below w.heap.size w w' := by
  have HN := hide hN
  have HB := hide (Box.start w W A n c)
  clear hN
  go_enter Try.func13, Try.ntmps13
  unfold wval
  go_upto_region 1 with fail
  generalize w.alloc (.cells #[.int .i64 W.ins, .int .i64 W.del, .int .i64 W.chg, .int .i64 W.swp, .slice A n c] 24) = w1 at *
  obtain ⟨U, hU, g, u0, rfl, hgu, hgi⟩ := cls w1
  have xs_0 := fun u => (((HB.out.blk.to (hgu u)).cell 0).trans (show _ = some (Value.int IntKind.i64 W.ins) from rfl))
  have xs_1 := fun u => (((HB.out.blk.to (hgu u)).cell 1).trans (show _ = some (Value.int IntKind.i64 W.del) from rfl))
  have xs_2 := fun u => (((HB.out.blk.to (hgu u)).cell 2).trans (show _ = some (Value.int IntKind.i64 W.chg) from rfl))
  have xs_3 := fun u => (((HB.out.blk.to (hgu u)).cell 3).trans (show _ = some (Value.int IntKind.i64 W.swp) from rfl))
  have xs_4 := fun u => (((HB.out.blk.to (hgu u)).cell 4).trans (show _ = some (Value.slice A n c) from rfl))
  have CV : ∀ u, Calls Try.prog 21 #[.agg #[.int .i64 W.ins, .int .i64 W.del, .int .i64 W.chg, .int .i64 W.swp, .slice A n c]] (g u) fun e w' => e = .returned (.bool W.valid) ∧ ∃ u', w' = g u' := fun u => cls_call hgu hgi (fun Wd hb => rvalid8_any W A n c X Wd (HN.out.below (below_to HB.out.bel (Nat.le_refl _) hb) hX0) (by have := (below_to HB.out.bel (Nat.le_refl _) hb).size; omega) hn) u
  have CX : ∀ u, Calls Try.prog 29 #[.string x] (g u) fun e w' => e = .returned (.bool (okText x.data.toList)) ∧ ∃ u', w' = g u' := fun u => cls_call hgu hgi (fun Wd hb => (refText_any x Wd hx).mono (fun e w' h => ⟨h.1, h.2 ▸ Below.refl _ _⟩)) u
  have CY : ∀ u, Calls Try.prog 29 #[.string y] (g u) fun e w' => e = .returned (.bool (okText y.data.toList)) ∧ ∃ u', w' = g u' := fun u => cls_call hgu hgi (fun Wd hb => (refText_any y Wd hy).mono (fun e w' h => ⟨h.1, h.2 ▸ Below.refl _ _⟩)) u
  cases hv : W.valid with
  | false =>
    rw [hv] at CV
    have HF := hide (ok3_n1 (W := W) (x := x.data.toList) (y := y.data.toList) hv)
    clear hv
    go_wp2_with (first | ((with_reducible refine (CV _).mono ?_); rintro e w' ⟨rfl, u, rfl⟩) | ((with_reducible refine (CX _).mono ?_); rintro e w' ⟨rfl, u, rfl⟩) | ((with_reducible refine (CY _).mono ?_); rintro e w' ⟨rfl, u, rfl⟩))
    go_ret2
    exact ⟨ret_two (dist_no HF.out).1.symm (dist_no HF.out).2.symm, below_to HB.out.bel (Nat.le_refl _) (hgu _)⟩
  | true =>
    rw [hv] at CV
    cases hxt : okText x.data.toList with
    | false =>
      rw [hxt] at CX
      have HF := hide (ok3_n2 (W := W) (x := x.data.toList) (y := y.data.toList) hxt)
      clear hxt hv
      go_wp2_with (first | ((with_reducible refine (CV _).mono ?_); rintro e w' ⟨rfl, u, rfl⟩) | ((with_reducible refine (CX _).mono ?_); rintro e w' ⟨rfl, u, rfl⟩) | ((with_reducible refine (CY _).mono ?_); rintro e w' ⟨rfl, u, rfl⟩))
      go_ret2
      exact ⟨ret_two (dist_no HF.out).1.symm (dist_no HF.out).2.symm, below_to HB.out.bel (Nat.le_refl _) (hgu _)⟩
    | true =>
      rw [hxt] at CX
      cases hyt : okText y.data.toList with
      | false =>
        rw [hyt] at CY
        have HF := hide (ok3_n3 (W := W) (x := x.data.toList) (y := y.data.toList) hyt)
        clear hyt hv hxt
        go_wp2_with (first | ((with_reducible refine (CV _).mono ?_); rintro e w' ⟨rfl, u, rfl⟩) | ((with_reducible refine (CX _).mono ?_); rintro e w' ⟨rfl, u, rfl⟩) | ((with_reducible refine (CY _).mono ?_); rintro e w' ⟨rfl, u, rfl⟩))
        go_ret2
        exact ⟨ret_two (dist_no HF.out).1.symm (dist_no HF.out).2.symm, below_to HB.out.bel (Nat.le_refl _) (hgu _)⟩
      | true =>
        rw [hyt] at CY
        have HF := hide (ok3_yes hv hxt hyt)
        have HV := hide hv
        have hx120 : x.size ≤ 120 := by simpa using okText_len hxt
        have hy120 : y.size ≤ 120 := by simpa using okText_len hyt
        have HX := hide (okText_len hxt)
        have HY := hide (okText_len hyt)
        have HD := hide (Wt.isDist hv (okText_len hxt) (okText_len hyt))
        clear hv hxt hyt
        go_wp2_with (first | ((with_reducible refine (CV _).mono ?_); rintro e w' ⟨rfl, u, rfl⟩) | ((with_reducible refine (CX _).mono ?_); rintro e w' ⟨rfl, u, rfl⟩) | ((with_reducible refine (CY _).mono ?_); rintro e w' ⟨rfl, u, rfl⟩))
        have HBg := hide (below_to HB.out.bel (Nat.le_refl _) (hgu u))
        have HNg := hide (HN.out.below HBg.out hX0)
        have HXg : Hid (X ≤ (g u).heap.size) := by have := HBg.out.size; show _ ≤ _; omega
        have HBx := hide (HB.out.next (hgu u))
        clear CV CX CY xs_0 xs_1 xs_2 xs_3 xs_4 HB
        generalize g u = w3 at *
        clear hgu hgi
        refine (rtable_any W HV.out A n c X x y w3 HNg.out HXg.out hn hx120 hy120 _ HD.out).mono ?_
        rintro e w5 ⟨rfl, hF⟩
        obtain ⟨b, p1, p2⟩ := hF.cells (i := 0) (j := 0) (Nat.zero_le _) (Nat.zero_le _) (Nat.zero_le _) (.inl (Nat.zero_le _))
        have HBL := hide (HBg.out.trans (hF.box.bel.mono HBg.out.size))
        clear hF
        have HDV := hide (dist_yes HF.out).1
        generalize W.D x.data.toList y.data.toList 0 0 = dv at *
        have s1 : (0 : Int) < (x.size : Int) + 1 := by omega
        have s2 : (0 : Int) < (y.size : Int) + 1 := by omega
        go_wp2_with fail
        go_ret2
        exact ⟨ret_two HDV.out.symm (dist_yes HF.out).2.symm, HBL.out⟩
theorem ints_at {w : World} {B n k : Nat} {A : Option Addr} {l : List Int} (h : Ints w B A n l) (hk : k < n) : ∃ (ad : Addr) (v : Int), A = some ad ∧ ad.block < B ∧ l[k]? = some v ∧ w.cell? (ad.add k) = some (.int .i64 v) := by
  obtain ⟨ad, e, hb, hc⟩ := Reads.at_ h hk
  obtain ⟨u, a0, c0⟩ := hc 0 (by omega)
  rw [Nat.mul_one, Nat.add_zero] at a0
  rw [add_of_add, Nat.mul_one, Nat.add_zero] at c0
  rw [List.getElem?_map] at a0
  cases hl : l[k]? with
  | none => rw [hl] at a0; cases a0
  | some v =>
    rw [hl] at a0
    exact ⟨ad, v, e, hb, rfl, c0.trans a0.symm⟩
theorem drop_atI {l : List Int} {k : Nat} {x : Int} (h : l[k]? = some x) : l.drop k = x :: l.drop (k + 1) := by
  obtain ⟨hlt, e⟩ := List.getElem?_eq_some_iff.1 h
  rw [List.drop_eq_getElem_cons hlt, e]
end Go.Proofs.Ytnpdhbagfkilkaa

/- The reference of layer 18: Check. -/
set_option linter.unusedVariables false
set_option linter.unusedSimpArgs false
namespace Go.Proofs.Ytnpdhbagfkilkaa
open Go.RowKit

theorem checkF_nil {W : Wt} {x y : List UInt8} {i j : Nat} {sum : Int} : Wt.checkF W x y [] i j sum = if i < x.length ∨ j < y.length then none else some sum := rfl
theorem checkF_step {W : Wt} (hW : W.valid = true) {x y : List UInt8} {i j : Nat} {sum v : Int} {l : List Int} : Wt.checkF W x y (v :: l) i j sum = if (stepR W x y i j v).2.2.2 = true then Wt.checkF W x y l (i + (stepR W x y i j v).2.1.toNat) (j + (stepR W x y i j v).2.2.1.toNat) (sum + (stepR W x y i j v).1) else none := by
  rw [Wt.checkF]
  by_cases h : 1 ≤ v ∧ v ≤ 5
  · rw [if_neg (by omega)]
    unfold stepR
    rw [if_pos h]
    by_cases hn : (Wt.stp W x y i j v.toNat).1 < 0
    · rw [if_pos hn, if_pos hn]; rfl
    · rw [if_neg hn, if_neg hn]; rfl
  · rw [if_pos (by omega), stepR_no h]; rfl
theorem stepR_fit {W : Wt} (hW : W.valid = true) {x y : ByteArray} {i j : Nat} (hi : i ≤ x.size) (hj : j ≤ y.size) {kind : Int} (h : (stepR W x.data.toList y.data.toList i j kind).2.2.2 = true) :
    0 ≤ (stepR W x.data.toList y.data.toList i j kind).1 ∧ (stepR W x.data.toList y.data.toList i j kind).1 ≤ 1000 ∧ 0 ≤ (stepR W x.data.toList y.data.toList i j kind).2.1 ∧ 0 ≤ (stepR W x.data.toList y.data.toList i j kind).2.2.1 ∧
    0 < (stepR W x.data.toList y.data.toList i j kind).2.1 + (stepR W x.data.toList y.data.toList i j kind).2.2.1 ∧ (i + (stepR W x.data.toList y.data.toList i j kind).2.1 ≤ x.size ∧ j + (stepR W x.data.toList y.data.toList i j kind).2.2.1 ≤ y.size) := by
  by_cases hk : 1 ≤ kind ∧ kind ≤ 5
  · unfold stepR at h ⊢
    rw [if_pos hk] at h ⊢
    by_cases hn : (Wt.stp W x.data.toList y.data.toList i j kind.toNat).1 < 0
    · rw [if_pos hn] at h; cases h
    · rw [if_neg hn]
      have hf := (Wt.stp_fits hW (x := x.data.toList) (y := y.data.toList) (i := i) (j := j) (by simpa using hi) (by simpa using hj) (k := kind.toNat) (by omega)).resolve_left hn
      simp at hf ⊢
      omega
  · rw [stepR_no hk] at h; cases h
theorem ints_end {w : World} {B n : Nat} {A : Option Addr} {l : List Int} (h : Ints w B A n l) : l.drop n = [] := List.drop_of_length_le (by rw [h.len]; exact Nat.le_refl _)
set_option maxRecDepth 100000 in
set_option maxHeartbeats 8000000 in
theorem rcheck_any (W : Wt) (A : Option Addr) (n c X : Nat) (x y : ByteArray) (E : Option Addr) (ne ce : Nat) (l : List Int) (w : World) (hN : Near w X A n W.near) (hX0 : X ≤ w.heap.size) (hn : n ≤ 140737488355328) (hx : x.size ≤ maxLen) (hy : y.size ≤ maxLen)
    (hE : Ints w X E ne l) (hne : ne ≤ 140737488355328) :
    Calls Try.prog 19 #[wval W A n c, .string x, .string y, .slice E ne ce] w fun e w' => e = .returned (.tuple #[.int .i64 ((Wt.check W x.data.toList y.data.toList l).getD 0), .bool (Wt.check W x.data.toList y.data.toList l).isSome]) ∧ Below w.heap.size w w' := by
  have HE := hide hE
  clear hE
  have HN := hide hN
  have HB := hide (Box.start w W A n c)
  clear hN
  go_enter Try.func19, Try.ntmps19
  unfold wval
  go_upto_region 1 with fail
  generalize w.alloc (.cells #[.int .i64 W.ins, .int .i64 W.del, .int .i64 W.chg, .int .i64 W.swp, .slice A n c] 24) = w1 at *
  obtain ⟨U, hU, g, u0, rfl, hgu, hgi⟩ := cls w1
  have xs_0 := fun u => (((HB.out.blk.to (hgu u)).cell 0).trans (show _ = some (Value.int IntKind.i64 W.ins) from rfl))
  have xs_1 := fun u => (((HB.out.blk.to (hgu u)).cell 1).trans (show _ = some (Value.int IntKind.i64 W.del) from rfl))
  have xs_2 := fun u => (((HB.out.blk.to (hgu u)).cell 2).trans (show _ = some (Value.int IntKind.i64 W.chg) from rfl))
  have xs_3 := fun u => (((HB.out.blk.to (hgu u)).cell 3).trans (show _ = some (Value.int IntKind.i64 W.swp) from rfl))
  have xs_4 := fun u => (((HB.out.blk.to (hgu u)).cell 4).trans (show _ = some (Value.slice A n c) from rfl))
  have CV : ∀ u, Calls Try.prog 21 #[.agg #[.int .i64 W.ins, .int .i64 W.del, .int .i64 W.chg, .int .i64 W.swp, .slice A n c]] (g u) fun e w' => e = .returned (.bool W.valid) ∧ ∃ u', w' = g u' := fun u => cls_call hgu hgi (fun Wd hb => rvalid8_any W A n c X Wd (HN.out.below (below_to HB.out.bel (Nat.le_refl _) hb) hX0) (by have := (below_to HB.out.bel (Nat.le_refl _) hb).size; omega) hn) u
  have CX : ∀ u, Calls Try.prog 29 #[.string x] (g u) fun e w' => e = .returned (.bool (okText x.data.toList)) ∧ ∃ u', w' = g u' := fun u => cls_call hgu hgi (fun Wd hb => (refText_any x Wd hx).mono (fun e w' h => ⟨h.1, h.2 ▸ Below.refl _ _⟩)) u
  have CY : ∀ u, Calls Try.prog 29 #[.string y] (g u) fun e w' => e = .returned (.bool (okText y.data.toList)) ∧ ∃ u', w' = g u' := fun u => cls_call hgu hgi (fun Wd hb => (refText_any y Wd hy).mono (fun e w' h => ⟨h.1, h.2 ▸ Below.refl _ _⟩)) u
  cases hv : W.valid with
  | false =>
    rw [hv] at CV
    have HF := hide (ok3_n1 (W := W) (x := x.data.toList) (y := y.data.toList) hv)
    clear hv
    go_wp2_with (first | ((with_reducible refine (CV _).mono ?_); rintro e w' ⟨rfl, u, rfl⟩) | ((with_reducible refine (CX _).mono ?_); rintro e w' ⟨rfl, u, rfl⟩) | ((with_reducible refine (CY _).mono ?_); rintro e w' ⟨rfl, u, rfl⟩))
    go_ret2
    exact ⟨ret_nb (by rw [check_no HF.out]; rfl) (by rw [check_no HF.out]; rfl), below_to HB.out.bel (Nat.le_refl _) (hgu _)⟩
  | true =>
    rw [hv] at CV
    cases hxt : okText x.data.toList with
    | false =>
      rw [hxt] at CX
      have HF := hide (ok3_n2 (W := W) (x := x.data.toList) (y := y.data.toList) hxt)
      clear hxt hv
      go_wp2_with (first | ((with_reducible refine (CV _).mono ?_); rintro e w' ⟨rfl, u, rfl⟩) | ((with_reducible refine (CX _).mono ?_); rintro e w' ⟨rfl, u, rfl⟩) | ((with_reducible refine (CY _).mono ?_); rintro e w' ⟨rfl, u, rfl⟩))
      go_ret2
      exact ⟨ret_nb (by rw [check_no HF.out]; rfl) (by rw [check_no HF.out]; rfl), below_to HB.out.bel (Nat.le_refl _) (hgu _)⟩
    | true =>
      rw [hxt] at CX
      cases hyt : okText y.data.toList with
      | false =>
        rw [hyt] at CY
        have HF := hide (ok3_n3 (W := W) (x := x.data.toList) (y := y.data.toList) hyt)
        clear hyt hv hxt
        go_wp2_with (first | ((with_reducible refine (CV _).mono ?_); rintro e w' ⟨rfl, u, rfl⟩) | ((with_reducible refine (CX _).mono ?_); rintro e w' ⟨rfl, u, rfl⟩) | ((with_reducible refine (CY _).mono ?_); rintro e w' ⟨rfl, u, rfl⟩))
        go_ret2
        exact ⟨ret_nb (by rw [check_no HF.out]; rfl) (by rw [check_no HF.out]; rfl), below_to HB.out.bel (Nat.le_refl _) (hgu _)⟩
      | true =>
        rw [hyt] at CY
        have HF := hide (ok3_yes hv hxt hyt)
        have HV := hide hv
        have hx120 : x.size ≤ 120 := by simpa using okText_len hxt
        have hy120 : y.size ≤ 120 := by simpa using okText_len hyt
        have HX := hide (okText_len hxt)
        have HY := hide (okText_len hyt)
        have HD := hide (Wt.isDist hv (okText_len hxt) (okText_len hyt))
        clear hv hxt hyt
        have HK : Hid (Wt.checkF W x.data.toList y.data.toList (l.drop 0) 0 0 0 = Wt.check W x.data.toList y.data.toList l) := by show _ = _; simp [Wt.check, HF.out]
        go_wp2_with (first | ((with_reducible refine (CV _).mono ?_); rintro e w' ⟨rfl, u, rfl⟩) | ((with_reducible refine (CX _).mono ?_); rintro e w' ⟨rfl, u, rfl⟩) | ((with_reducible refine (CY _).mono ?_); rintro e w' ⟨rfl, u, rfl⟩))
        have HBg := hide (below_to HB.out.bel (Nat.le_refl _) (hgu u))
        have HNg := hide (HN.out.below HBg.out hX0)
        have HXg : Hid (X ≤ (g u).heap.size) := by have := HBg.out.size; show _ ≤ _; omega
        have HEg := hide (HE.out.below HBg.out hX0)
        have HBx := hide (HB.out.next (hgu u))
        clear CV CX CY xs_0 xs_1 xs_2 xs_3 xs_4 HB
        generalize g u = w3 at *
        clear hgu hgi
        go_loopw [10, 11, 12, 13] (fun t10 t11 t12 t13 wr => ∃ (k i j : Nat) (sum : Int), t13 = .int .i64 (k : Int) ∧ t10 = .int .i64 (i : Int) ∧ t11 = .int .i64 (j : Int) ∧ t12 = .int .i64 sum ∧ (k ≤ ne ∧ i ≤ x.size ∧ j ≤ y.size ∧ 0 ≤ sum ∧ sum ≤ 1000 * ((i : Int) + j)) ∧ Wt.checkF W x.data.toList y.data.toList (l.drop k) i j sum = Wt.check W x.data.toList y.data.toList l ∧ Below w3.heap.size w3 wr) (fun _ _ _ t13 _ => ne - (intOf t13).toNat)
        case atStart => exact ⟨0, 0, 0, 0, rfl, rfl, rfl, rfl, ⟨Nat.zero_le _, Nat.zero_le _, Nat.zero_le _, by omega, by omega⟩, HK.out, Below.refl _ _⟩
        case round =>
          obtain ⟨k, i, j, sum, rfl, rfl, rfl, rfl, ⟨hk, hi, hj, hs0, hs1⟩, hck, hB⟩ := hrel
          have HBk := hide hB
          have HCK := hide hck
          clear hB hck HK
          have HBy := hide (HBx.out.next HBk.out)
          by_cases hke : k < ne
          · have e1 : decide ((k : Int) < (ne : Int)) = true := decide_eq_true (by omega)
            have e1' : decide (k < ne) = true := decide_eq_true hke
            obtain ⟨ad, v, ea, hab, hlv, cv⟩ := ints_at (HEg.out.below HBk.out HXg.out) hke
            have HDR := hide (drop_atI hlv)
            have k0 : (0 : Int) ≤ (k : Int) := by omega
            have k1 : (k : Int) < (ne : Int) := by omega
            have HKE := hide hke
            have HAB := hide hab
            subst ea
            clear hlv hab hke
            obtain ⟨V, hV, h, v0, rfl, hhu, hhi⟩ := cls wr
            have xs_0 := fun u => (((HBy.out.blk.to (hhu u)).cell 0).trans (show _ = some (Value.int IntKind.i64 W.ins) from rfl))
            have xs_1 := fun u => (((HBy.out.blk.to (hhu u)).cell 1).trans (show _ = some (Value.int IntKind.i64 W.del) from rfl))
            have xs_2 := fun u => (((HBy.out.blk.to (hhu u)).cell 2).trans (show _ = some (Value.int IntKind.i64 W.chg) from rfl))
            have xs_3 := fun u => (((HBy.out.blk.to (hhu u)).cell 3).trans (show _ = some (Value.int IntKind.i64 W.swp) from rfl))
            have xs_4 := fun u => (((HBy.out.blk.to (hhu u)).cell 4).trans (show _ = some (Value.slice A n c) from rfl))
            have xv := fun u => ((hhu u).cell (p := ad.add k) (by rw [block_of_add]; have h1 := HAB.out; have h2 := HXg.out; have h3 := HBk.out.size; omega)).trans cv
            have CS : ∀ u, Calls Try.prog 32 #[.agg #[.int .i64 W.ins, .int .i64 W.del, .int .i64 W.chg, .int .i64 W.swp, .slice A n c], .string x, .string y, .int .i64 (i : Int), .int .i64 (j : Int), .int .i64 v] (h u) fun e w' => e = .returned (stepV (stepR W x.data.toList y.data.toList i j v)) ∧ ∃ u', w' = h u' := fun u => cls_call hhu hhi (fun Wd hb => rstep_any W HV.out A n c X x y i j v Wd (HNg.out.below (below_to HBk.out (Nat.le_refl _) hb) HXg.out) (by have := (below_to HBk.out (Nat.le_refl _) hb).size; have := HXg.out; omega) hn hi hj hx120 hy120) u
            have HCS : Hid (Wt.checkF W x.data.toList y.data.toList (l.drop k) i j sum = if (stepR W x.data.toList y.data.toList i j v).2.2.2 = true then Wt.checkF W x.data.toList y.data.toList (l.drop (k + 1)) (i + (stepR W x.data.toList y.data.toList i j v).2.1.toNat) (j + (stepR W x.data.toList y.data.toList i j v).2.2.1.toNat) (sum + (stepR W x.data.toList y.data.toList i j v).1) else none) := by
              show _ = _
              rw [HDR.out, checkF_step HV.out]
            have HFT := hide (stepR_fit HV.out (x := x) (y := y) hi hj (kind := v))
            generalize stepR W x.data.toList y.data.toList i j v = q at *
            obtain ⟨sc, sa, sb, ok⟩ := q
            cases ok with
            | false =>
              have HFN : Hid (Wt.check W x.data.toList y.data.toList l = none) := by show _ = _; rw [← HCK.out, HCS.out]; rfl
              unfold stepV at CS
              go_wp2_with fail
              refine wp_region_class h (by kernel_rfl) (by kernel_rfl) (hhi _ (hhu _).drew) ?_
              repeat (go_big_quiet_step (with_reducible exact CS _))
              refine wpQuiet_nil ?_
              intro w9 hw9
              obtain ⟨u, rfl⟩ := hw9
              go_wp2_with fail
              go_ret2
              exact ⟨ret_nb (by rw [HFN.out]; rfl) (by rw [HFN.out]; rfl), HBg.out.trans ((below_to HBk.out (Nat.le_refl _) (hhu _)).mono HBg.out.size)⟩
            | true =>
              obtain ⟨f0, f1, f2, f3, f5, f6⟩ := HFT.out rfl
              dsimp only at f0 f1 f2 f3 f5 f6
              obtain ⟨na, rfl⟩ := Int.eq_ofNat_of_zero_le f2
              obtain ⟨nb, rfl⟩ := Int.eq_ofNat_of_zero_le f3
              have HCN : Hid (Wt.checkF W x.data.toList y.data.toList (l.drop (k + 1)) (i + na) (j + nb) (sum + sc) = Wt.check W x.data.toList y.data.toList l) := by show _ = _; rw [← HCK.out, HCS.out]; rfl
              unfold stepV at CS
              clear HCS HFT
              go_wp2_with fail
              refine wp_region_class h (by kernel_rfl) (by kernel_rfl) (hhi _ (hhu _).drew) ?_
              repeat (go_big_quiet_step (with_reducible exact CS _))
              refine wpQuiet_nil ?_
              intro w9 hw9
              obtain ⟨u, rfl⟩ := hw9
              clear CS xs_0 xs_1 xs_2 xs_3 xs_4 xv
              go_wp2_with fail
              go_roundw
              case rel => exact ⟨k + 1, i + na, j + nb, sum + sc, by go_num, vint (by omega), vint (by omega), rfl, ⟨by have := HKE.out; omega, by omega, by omega, by omega, by omega⟩, HCN.out, below_to HBk.out (Nat.le_refl _) (hhu _)⟩
              case measure => have := HKE.out; simp [intOf] <;> omega
          · obtain rfl : k = ne := by omega
            have e1 : decide ((k : Int) < (k : Int)) = false := by simp
            have e1' : decide (k < k) = false := by simp
            have HFN : Hid (Wt.check W x.data.toList y.data.toList l = if i < x.size ∨ j < y.size then none else some sum) := by
              show _ = _
              rw [← HCK.out, ints_end HEg.out, checkF_nil]
              simp
            by_cases hix : i < x.size
            · have g1 : decide ((i : Int) < (x.size : Int)) = true := decide_eq_true (by omega)
              have g1' : decide (i < x.size) = true := decide_eq_true hix
              have HR : Hid (Wt.check W x.data.toList y.data.toList l = none) := by show _ = _; rw [HFN.out, if_pos (.inl hix)]
              clear hix
              go_wp2_with fail
              go_ret2
              exact ⟨ret_nb (by rw [HR.out]; rfl) (by rw [HR.out]; rfl), HBg.out.trans (HBk.out.mono HBg.out.size)⟩
            · have g1 : decide ((i : Int) < (x.size : Int)) = false := decide_eq_false (by omega)
              have g1' : decide (i < x.size) = false := decide_eq_false hix
              by_cases hjy : j < y.size
              · have g2 : decide ((j : Int) < (y.size : Int)) = true := decide_eq_true (by omega)
                have g2' : decide (j < y.size) = true := decide_eq_true hjy
                have HR : Hid (Wt.check W x.data.toList y.data.toList l = none) := by show _ = _; rw [HFN.out, if_pos (.inr hjy)]
                clear hix hjy
                go_wp2_with fail
                go_ret2
                exact ⟨ret_nb (by rw [HR.out]; rfl) (by rw [HR.out]; rfl), HBg.out.trans (HBk.out.mono HBg.out.size)⟩
              · have g2 : decide ((j : Int) < (y.size : Int)) = false := decide_eq_false (by omega)
                have g2' : decide (j < y.size) = false := decide_eq_false hjy
                have HR : Hid (Wt.check W x.data.toList y.data.toList l = some sum) := by show _ = _; rw [HFN.out, if_neg (by omega)]
                clear hix hjy
                go_wp2_with fail
                go_ret2
                exact ⟨ret_nb (by rw [HR.out]; rfl) (by rw [HR.out]; rfl), HBg.out.trans (HBk.out.mono HBg.out.size)⟩
end Go.Proofs.Ytnpdhbagfkilkaa
