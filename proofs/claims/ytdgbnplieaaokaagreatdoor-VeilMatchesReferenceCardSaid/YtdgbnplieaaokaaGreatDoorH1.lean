/- Walks of the reference of layer 49: the small functions. -/
import Derived.Test.YtdgbnplieaaokaaGreatDoorH0
import Derived.Test.YtdgbnplieaaokaaGreatDoorV2
import Derived.Test.YtdgbnplieaaokaaGreatDoorRd
import Derived.Test.YtdgbnplieaaokaaGreatDoorS2
set_option linter.unusedVariables false
set_option linter.unusedSimpArgs false
namespace Go.Proofs.YtdgbnplieaaokaaGreatDoor
open Go.RowKit

set_option maxRecDepth 100000 in
set_option maxHeartbeats 1000000 in
theorem rOn_any (x y : Int) (w : World) : Calls Tryz.prog 20 #[.agg #[.int .i64 x, .int .i64 y]] w fun e w' => e = .returned (.bool (onP x y)) ∧ Below w.heap.size w w' := by
  have HB := hide (below_one w (.cells #[.int .i64 x, .int .i64 y] 23))
  have HO : Hid (onP x y = (decide (0 ≤ x) && decide (x ≤ 32767) && decide (0 ≤ y) && decide (y ≤ 32767))) := rfl
  go_enter Tryz.func20, Tryz.ntmps20
  by_cases h1 : 0 ≤ x
  · have e1 : decide (0 ≤ x) = true := decide_eq_true h1
    rw [e1] at HO
    by_cases h2 : x ≤ 32767
    · have e2 : decide (x ≤ 32767) = true := decide_eq_true h2
      rw [e2] at HO
      by_cases h3 : 0 ≤ y
      · have e3 : decide (0 ≤ y) = true := decide_eq_true h3
        rw [e3] at HO
        clear h1 h2 h3
        go_wp2_with fail
        go_ret
        exact ⟨ret_bool (by rw [HO.out]; rfl), HB.out⟩
      · have e3 : decide (0 ≤ y) = false := decide_eq_false h3
        rw [e3] at HO
        clear h1 h2 h3
        go_wp2_with fail
        go_ret
        exact ⟨ret_bool (by rw [HO.out]; rfl), HB.out⟩
    · have e2 : decide (x ≤ 32767) = false := decide_eq_false h2
      rw [e2] at HO
      clear h1 h2
      go_wp2_with fail
      go_ret
      exact ⟨ret_bool (by rw [HO.out]; rfl), HB.out⟩
  · have e1 : decide (0 ≤ x) = false := decide_eq_false h1
    rw [e1] at HO
    clear h1
    go_wp2_with fail
    go_ret
    exact ⟨ret_bool (by rw [HO.out]; rfl), HB.out⟩
set_option maxRecDepth 100000 in
set_option maxHeartbeats 1000000 in
theorem rDigits_any (l : List UInt8) (hl : l.length ≤ 140737488355328) (w : World) : Calls Tryz.prog 29 #[.string (bs l)] w fun e w' => e = .returned (.bool (l.all isDg)) ∧ w' = w := by
  have hsz : (bs l).size = l.length := bs_size l
  go_enter Tryz.func29, Tryz.ntmps29
  go_wp2_with fail
  go_loopw [3] (fun i wr => ∃ k : Nat, i = .int .i64 (k : Int) ∧ k ≤ l.length ∧ Hid (l.all isDg = (l.drop k).all isDg) ∧ wr = w) (fun i _ => l.length - (intOf i).toNat)
  case atStart => exact ⟨0, rfl, by omega, rfl, rfl⟩
  case round =>
    obtain ⟨k, rfl, hk, HA, rfl⟩ := hrel
    by_cases h1 : k < l.length
    · have e1 : decide ((k : Int) < (l.length : Int)) = true := decide_eq_true (by omega)
      obtain ⟨c, hc⟩ : ∃ c, l[k]? = some c := ⟨_, List.getElem?_eq_getElem h1⟩
      have ci := index_bs l k c hc
      have HD := hide (drop_at' hc)
      have HG : Hid (isDg c = (decide (48 ≤ c.toNat) && decide (c.toNat ≤ 57))) := rfl
      have HN : Hid (l.all isDg = (isDg c && (l.drop (k + 1)).all isDg)) := by show _ = _; rw [HA.out, HD.out, List.all_cons]
      clear hc
      generalize isDg c = b at *
      generalize c.toNat = n at *
      by_cases h2 : 48 ≤ n
      · have e2 : decide ((n : Int) < 48) = false := decide_eq_false (by omega)
        rw [decide_eq_true h2, Bool.true_and] at HG
        by_cases h3 : n ≤ 57
        · have e3 : decide ((57 : Int) < (n : Int)) = false := decide_eq_false (by omega)
          rw [decide_eq_true h3] at HG
          clear h2 h3
          go_wp2_with fail
          refine ⟨⟨k + 1, by go_num, by omega, by show _ = _; rw [HN.out, HG.out, Bool.true_and], trivial⟩, ?_⟩
          simp [intOf]; omega
        · have e3 : decide ((57 : Int) < (n : Int)) = true := decide_eq_true (by omega)
          rw [decide_eq_false h3] at HG
          clear h2 h3
          go_wp2_with fail
          go_ret
          exact ⟨ret_bool (by rw [HN.out, HG.out]; rfl), rfl⟩
      · have e2 : decide ((n : Int) < 48) = true := decide_eq_true (by omega)
        rw [decide_eq_false h2, Bool.false_and] at HG
        clear h2
        go_wp2_with fail
        go_ret
        exact ⟨ret_bool (by rw [HN.out, HG.out]; rfl), rfl⟩
    · obtain rfl : k = l.length := by omega
      have e1 : decide ((l.length : Int) < (l.length : Int)) = false := by simp
      go_wp2_with fail
      go_ret
      exact ⟨ret_bool (by rw [HA.out, List.drop_of_length_le (Nat.le_refl _)]; rfl), rfl⟩
def FvI (n : Nat) (w wr : World) (a s i : Value) : Prop := ∃ (k u : Nat) (S : List UInt8), k ≤ 5 ∧ a = .int .i64 (u : Int) ∧ u < 100000 ∧ Hid (n / 10 ^ k = u) ∧ s = .string (bs S) ∧ S.length ≤ 5 ∧ Hid ((dec5 n).drop (5 - k) = S) ∧ i = .int .i64 (k : Int) ∧ wr = w
set_option maxRecDepth 100000 in
set_option maxHeartbeats 1000000 in
theorem rFive_any (n : Nat) (hn : n < 100000) (w : World) : Calls Tryz.prog 22 #[.int .i64 (n : Int)] w fun e w' => e = .returned (.string (bs (dec5 n))) ∧ w' = w := by
  go_enter Tryz.func22, Tryz.ntmps22
  go_wp2_with fail
  go_loopw [0, 3, 4] (fun a s i wr => FvI n w wr a s i) (fun _ _ i _ => 5 - (intOf i).toNat)
  case atStart => exact ⟨0, n, [], by omega, rfl, hn, by show _ = _; simp, rfl, by simp, rfl, rfl, rfl⟩
  case round =>
    obtain ⟨k, u, S, hk, rfl, hu, HU, rfl, hS, HS, rfl, rfl⟩ := hrel
    have hz : (bs S).size = S.length := bs_size S
    by_cases hk5 : k < 5
    · have e2 : decide ((k : Int) < 5) = true := decide_eq_true (by omega)
      obtain ⟨m, hm, hm10⟩ : ∃ m, u % 10 = m ∧ m < 10 := ⟨_, rfl, by omega⟩
      have h1 : (u : Int).tmod 10 = (m : Int) := by rw [Int.tmod_eq_emod_of_nonneg (by omega), ← hm, Int.natCast_emod]; rfl
      have hx := decS_ext m hm10
      have hz1 : (bs [dgc m]).size = 1 := rfl
      have H2 : Hid ((u : Int).tdiv 10 = ((u / 10 : Nat) : Int)) := by show _ = _; rw [Int.tdiv_eq_ediv_of_nonneg (by omega), Int.natCast_ediv]; rfl
      have HN : Hid ((dec5 n).drop (5 - (k + 1)) = [dgc m] ++ S) := by
        show _ = _
        rw [← HS.out, ← hm, ← HU.out, show 5 - (k + 1) = 4 - k by omega, five_step n k hk5]; rfl
      have HU2 : Hid (n / 10 ^ (k + 1) = u / 10) := by show _ = _; rw [← HU.out, Nat.pow_succ, Nat.div_div_eq_div_mul]
      have hl : ([dgc m] ++ S).length ≤ 5 := by rw [← HN.out, List.length_drop]; show 5 - _ ≤ 5; omega
      clear hm
      go_wp2_with fail
      refine ⟨⟨k + 1, u / 10, [dgc m] ++ S, by omega, by first | rw [H2.out] | rfl, by omega, HU2.out, by rw [← bs_app], hl, HN.out, by go_num, rfl⟩, ?_⟩
      simp [intOf]; omega
    · obtain rfl : k = 5 := by omega
      have e2 : decide (((5 : Nat) : Int) < 5) = false := by decide
      go_wp2_with fail
      go_ret
      exact ⟨ret_str' (by rw [← HS.out]; rfl), rfl⟩
def NuI (l : List UInt8) (w wr : World) (a i : Value) : Prop := ∃ (k u : Nat), k ≤ l.length ∧ a = .int .i64 (u : Int) ∧ u < 10 ^ k ∧ Hid (numP (l.take k) = u) ∧ i = .int .i64 (k : Int) ∧ wr = w
set_option maxRecDepth 100000 in
set_option maxHeartbeats 1000000 in
theorem rNumber_any (l : List UInt8) (hl : l.length = 5) (hd : dgs l) (w : World) : Calls Tryz.prog 27 #[.string (bs l)] w fun e w' => e = .returned (.int .i64 (numP l : Int)) ∧ w' = w := by
  have hsz : (bs l).size = l.length := bs_size l
  have HD := hide hd
  clear hd
  go_enter Tryz.func27, Tryz.ntmps27
  go_wp2_with fail
  go_loopw [3, 4] (fun a i wr => NuI l w wr a i) (fun _ i _ => 5 - (intOf i).toNat)
  case atStart => exact ⟨0, 0, by omega, rfl, by decide, rfl, rfl, rfl⟩
  case round =>
    obtain ⟨k, u, hk, rfl, hu, HU, rfl, rfl⟩ := hrel
    have hu5 : u < 100000 := Nat.lt_of_lt_of_le hu (Nat.le_trans (Nat.pow_le_pow_right (by decide) (show k ≤ 5 by omega)) (by decide))
    by_cases h1 : k < l.length
    · have e1 : decide ((k : Int) < (l.length : Int)) = true := decide_eq_true (by omega)
      obtain ⟨c, hc⟩ : ∃ c, l[k]? = some c := ⟨_, List.getElem?_eq_getElem h1⟩
      have ci := index_bs l k c hc
      have hc9 := (isDg_iff c).1 (HD.out c (List.mem_of_getElem? hc))
      have HN := hide (numP_take hc)
      rw [HU.out] at HN
      have hpow : u * 10 + (c.toNat - 48) < 10 ^ (k + 1) := by rw [Nat.pow_succ]; omega
      clear hc hu
      have HP := hide hpow
      clear hpow
      generalize c.toNat = n at *
      go_wp2_with fail
      refine ⟨⟨k + 1, u * 10 + (n - 48), by omega, by go_num, HP.out, HN.out, by go_num, rfl⟩, ?_⟩
      simp [intOf]; omega
    · obtain rfl : k = l.length := by omega
      have e1 : decide ((l.length : Int) < (l.length : Int)) = false := by simp
      have HF : Hid (numP l = u) := by show _ = _; have := HU.out; rwa [List.take_length] at this
      clear HU
      go_wp2_with fail
      go_ret
      exact ⟨ret_int (by rw [HF.out]), rfl⟩
end Go.Proofs.YtdgbnplieaaokaaGreatDoor
