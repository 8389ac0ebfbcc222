/- Walks of the reference of layer 1: mix, Sum. -/
import Derived.Test.YtdgbnplieaaokaaGreatDoorRd
import Derived.Test.YtdgbnplieaaokaaGreatDoorDig2
import Derived.Test.YtdgbnplieaaokaaGreatDoorDig5
set_option linter.unusedVariables false
set_option linter.unusedSimpArgs false
namespace Go.Proofs.YtdgbnplieaaokaaGreatDoor
open Go.RowKit

set_option maxHeartbeats 1000000 in
theorem rmix_any (X : Nat) (hX : X < 18446744073709551616) (w : World) : Calls Tryz.prog 61 #[.int .u64 (X : Int)] w fun e w' => e = .returned (.int .u64 ((mixN X : Nat) : Int)) ∧ w' = w := by
  have HM := hide (mix_val X hX)
  have hx := hX
  clear hX
  go_enter Tryz.func61, Tryz.ntmps61
  go_wp2_with fail
  go_ret
  exact ⟨congrArg (fun z => Ending.returned (Value.int .u64 z)) HM.out, rfl⟩
def hexS : List UInt8 := [48, 49, 50, 51, 52, 53, 54, 55, 56, 57, 97, 98, 99, 100, 101, 102]
theorem hexS_cut : ∀ m, m < 16 → (hexS.drop m).take (m + 1 - m) = [hexC m] := by decide
theorem hexS_ext (m : Nat) (h : m < 16) : (⟨#[48, 49, 50, 51, 52, 53, 54, 55, 56, 57, 97, 98, 99, 100, 101, 102]⟩ : ByteArray).extract m (m + 1) = bs [hexC m] := by
  have := bs_cut hexS m (m + 1)
  rw [hexS_cut m h] at this
  exact this
theorem pad8_at (l : List UInt8) (j : Nat) (hj : j < 8) : (pad8 l)[j]? = some (l.getD j 0) := by
  unfold pad8
  rcases Nat.lt_or_ge j l.length with h | h
  · rw [List.getElem?_append_left (by rw [List.length_take]; omega), List.getElem?_take_of_lt hj, List.getD_eq_getElem?_getD, List.getElem?_eq_getElem h]; rfl
  · rw [List.getElem?_append_right (by rw [List.length_take]; omega), List.getElem?_replicate, if_pos (by rw [List.length_take]; omega), List.getD_eq_getElem?_getD, List.getElem?_eq_none h]; rfl
def InI (P : List UInt8) (a : Nat) (w wr : World) (b i : Value) : Prop := ∃ j : Nat, j ≤ 8 ∧ i = .int .i64 ((a : Int) + (j : Int)) ∧ b = .int .u64 ((packN (P.take j) : Nat) : Int) ∧ wr = w
def OutI (l : List UInt8) (w wr : World) (st fr : Value) : Prop := ∃ k a : Nat, (k ≤ l.length / 8 + 1 ∧ a ≤ l.length + 8) ∧ Hid (8 * k = a) ∧ fr = .int .i64 (a : Int) ∧ st = .int .u64 ((stN l k : Nat) : Int) ∧ wr = w
def HexI (N : Nat) (w wr : World) (st s i : Value) : Prop := ∃ (j u : Nat) (S : List UInt8), j ≤ 16 ∧ i = .int .i64 (j : Int) ∧ st = .int .u64 (u : Int) ∧ u < 18446744073709551616 ∧ s = .string (bs S) ∧ S.length ≤ 16 ∧ Hid (S.length = j) ∧ Hid (hexN (16 - j) u ++ S = hexN 16 N) ∧ wr = w
set_option maxRecDepth 100000 in
set_option maxHeartbeats 1000000 in
theorem rSum_any (l : List UInt8) (hl : l.length ≤ 140737488355328) (w : World) : Calls Tryz.prog 39 #[.string (bs l)] w fun e w' => e = .returned (.string (bs (sumD l))) ∧ w' = w := by
  have hsz : (bs l).size = l.length := bs_size l
  have HX := hide (u64_xor_nat 7640891576956012809 l.length (by decide) (by omega))
  have z0 : IntKind.u64.wrap (l.length : Int) = (l.length : Int) := by rw [IntKind.wrap_u64]; omega
  go_enter Tryz.func39, Tryz.ntmps39
  go_wp2_with fail
  go_loopw [3, 4, 5, 6] (fun st fr _ _ wr => OutI l w wr st fr) (fun _ fr _ _ _ => l.length + 9 - (intOf fr).toNat)
  case atStart => exact ⟨0, 0, ⟨by omega, by omega⟩, rfl, rfl, congrArg (fun z => Value.int .u64 z) HX.out, rfl⟩
  case round =>
    obtain ⟨k, a, ⟨hk, ha⟩, HK, rfl, rfl, rfl⟩ := hrel
    have hst := stN_lt (l := l) (by omega) k
    clear HX
    by_cases hlt : a ≤ l.length
    · have e1 : decide ((a : Int) ≤ (l.length : Int)) = true := decide_eq_true (by omega)
      have HKs : Hid (stN l (k + 1) = mixN (stN l k ^^^ packN (pad8 (l.drop a)))) := by show _ = _; rw [← HK.out]; rfl
      have HPl := hide (pad8_len (l.drop a))
      have HPa : Hid (∀ j, j < 8 → (pad8 (l.drop a))[j]? = some (l.getD (a + j) 0)) := fun j hj => by rw [pad8_at _ j hj, List.getD_eq_getElem?_getD, List.getElem?_drop, ← List.getD_eq_getElem?_getD]
      generalize pad8 (l.drop a) = P at *
      generalize stN l k = s at *
      go_wp2_with fail
      go_loopw [5, 6] (fun b i wr2 => InI P a wr wr2 b i) (fun _ i _ => a + 8 - (intOf i).toNat)
      case atStart => exact ⟨0, by omega, by simp, rfl, rfl⟩
      case round =>
        obtain ⟨j, hj, rfl, rfl, rfl⟩ := hrel
        by_cases hj8 : j < 8
        · have e2 : decide ((a : Int) + (j : Int) < (a : Int) + 8) = true := decide_eq_true (by omega)
          have hN : packN (P.take j) < 72057594037927936 := by
            have h1 := packN_lt (P.take j)
            have h2 : 256 ^ (P.take j).length ≤ 256 ^ 7 := Nat.pow_le_pow_right (by decide) (by rw [List.length_take]; omega)
            omega
          have HN : Hid (packN (P.take (j + 1)) = packN (P.take j) * 256 + (l.getD (a + j) 0).toNat) := by
            show _ = _
            rw [List.take_add_one, HPa.out j hj8]
            exact packN_snoc _ _
          generalize packN (P.take j) = N at *
          by_cases hin : a + j < l.length
          · have e3 : decide ((a : Int) + (j : Int) < (l.length : Int)) = true := decide_eq_true (by omega)
            obtain ⟨c, hc⟩ : ∃ c, l[a + j]? = some c := ⟨_, List.getElem?_eq_getElem hin⟩
            have ci0 := index_bs l (a + j) c hc
            have ci : ∀ w, (Instr.index 9 (.string (bs l)) (.int .i64 ((a : Int) + (j : Int)))).run Tryz.prog w = .ok (.int .u8 (c.toNat : Int)) w := by
              rw [show (a : Int) + (j : Int) = ((a + j : Nat) : Int) by omega]
              exact ci0 
            clear ci0
            have c8 := c.toNat_lt
            rw [show l.getD (a + j) 0 = c by rw [List.getD_eq_getElem?_getD, hc]; rfl] at HN
            clear hc
            go_wp2_with fail
            refine ⟨⟨j + 1, by omega, by go_num, by rw [HN.out]; go_num, rfl⟩, ?_⟩
            simp [intOf]; omega
          · have e3 : decide ((a : Int) + (j : Int) < (l.length : Int)) = false := decide_eq_false (by omega)
            rw [show l.getD (a + j) 0 = 0 by rw [List.getD_eq_getElem?_getD, List.getElem?_eq_none (by omega)]; rfl] at HN
            go_wp2_with fail
            refine ⟨⟨j + 1, by omega, by go_num, by rw [HN.out]; simp, rfl⟩, ?_⟩
            simp [intOf]; omega
        · obtain rfl : j = 8 := by omega
          have e2 : decide ((a : Int) + (8 : Int) < (a : Int) + 8) = false := decide_eq_false (by omega)
          have HP8 : Hid (packN (P.take 8) = packN P) := by show _ = _; rw [List.take_of_length_le (by have := HPl.out; omega)]
          rw [HP8.out]
          have hN : packN P < 18446744073709551616 := packN_lt64 (by have := HPl.out; omega)
          generalize packN P = N at *
          have hx := u64_xor_nat s N hst hN
          have CM := fun w => rmix_any (s ^^^ N) (xor_lt64 hst hN) w
          generalize s ^^^ N = X at *
          go_wp2_with ((with_reducible refine (CM _).mono ?_); rintro e w' ⟨rfl, rfl⟩)
          refine ⟨⟨k + 1, a + 8, ⟨by have := HK.out; omega, by omega⟩, by have := HK.out; show _ = _; omega, by go_num, by rw [HKs.out], rfl⟩, ?_⟩
          simp [intOf]; omega
    · have e1 : decide ((a : Int) ≤ (l.length : Int)) = false := decide_eq_false (by omega)
      have HS : Hid (stN l k = sumN l) := by
        show _ = _
        have := HK.out
        rw [sumN_st, show k = l.length / 8 + 1 by omega]
      have hs : sumN l < 18446744073709551616 := by rw [← HS.out]; exact hst
      rw [HS.out]
      have HD : Hid (sumD l = hexN 16 (sumN l)) := rfl
      generalize sumN l = N at *
      clear HS hst
      go_wp2_with fail
      go_loopw [3, 7, 8] (fun st s i wr2 => HexI N wr wr2 st s i) (fun _ _ i _ => 16 - (intOf i).toNat)
      case atStart => exact ⟨0, N, [], by omega, rfl, rfl, hs, rfl, by simp, rfl, by show _ = _; simp, rfl⟩
      case round =>
        obtain ⟨j, u, S, hj, rfl, rfl, hu, rfl, hS, HSl, HE, rfl⟩ := hrel
        have hz : (bs S).size = S.length := bs_size S
        by_cases hj16 : j < 16
        · have e2 : decide ((j : Int) < 16) = true := decide_eq_true (by omega)
          obtain ⟨m, hm, hm16⟩ : ∃ m, u % 16 = m ∧ m < 16 := ⟨_, rfl, by omega⟩
          have h1 : (u : Int).tmod 16 = (m : Int) := by rw [Int.tmod_eq_emod_of_nonneg (by omega), ← hm, Int.natCast_emod]; rfl
          have hx := hexS_ext m hm16
          have hz1 : (bs [hexC m]).size = 1 := rfl
          have H2 : Hid ((u : Int) / 16 = ((u / 16 : Nat) : Int)) := by show _ = _; rw [Int.natCast_ediv]; rfl
          have HN : Hid (hexN (16 - (j + 1)) (u / 16) ++ ([hexC m] ++ S) = hexN 16 N) := by
            show _ = _
            rw [← HE.out, show 16 - j = (16 - (j + 1)) + 1 by omega, hexN, hm, List.append_assoc]
          clear hm
          go_wp2_with fail
          refine ⟨⟨j + 1, u / 16, [hexC m] ++ S, by omega, by go_num, by rw [H2.out], by omega, by rw [← bs_app], by have := HSl.out; rw [List.length_append, List.length_cons, List.length_nil]; omega, by show _ = _; have := HSl.out; rw [List.length_append, List.length_cons, List.length_nil]; omega, HN.out, rfl⟩, ?_⟩
          simp [intOf]; omega
        · obtain rfl : j = 16 := by omega
          have e2 : decide (((16 : Nat) : Int) < 16) = false := by decide
          have HF : Hid (S = sumD l) := by show _ = _; rw [HD.out, ← HE.out]; rfl
          go_wp2_with fail
          go_ret
          exact ⟨ret_str' (by rw [HF.out]), rfl⟩
end Go.Proofs.YtdgbnplieaaokaaGreatDoor
