/- Walks: strconv.FormatUint at base 16. -/
import Derived.Test.YtfhanbiifjiklaaGreatDoorGl
import Derived.Test.YtfhanbiifjiklaaGreatDoorBs
import Derived.Test.YtfhanbiifjiklaaGreatDoorDig1
import Derived.Laws.BitsAllLaws
import Derived.Lib.SlBytesRow
import Derived.Outline
set_option linter.unusedVariables false
set_option linter.unusedSimpArgs false
namespace Go.Proofs.YtfhanbiifjiklaaGreatDoor
open Go.RowKit

theorem and_16_15 : bits BinOp.and IntKind.i64 16 15 = 0 := by decide +kernel
theorem pow_16 (w : World) : Calls Tryz.prog 163 #[.int .i64 16] w fun e w' => e = .returned (.bool true) ∧ w = w' := by
  have h1 := and_16_15
  go_enter Tryz.func163, Tryz.ntmps163
  go_wp2_with fail
  go_ret
  exact ⟨rfl, rfl⟩
theorem tz_bits : bits BinOp.and IntKind.u64 16 18446744073709551600 = 16 := by decide +kernel
theorem tz_neg : IntKind.u64.wrap (-16) = 18446744073709551600 := by decide +kernel
theorem tz_mul : IntKind.u64.wrap (16 * 285870213051353865) = 4573923408821661840 := by decide +kernel
theorem tz64_16 (w : World) (hg : Glob w) : Calls Tryz.prog 181 #[.int .u64 16] w fun e w' => e = .returned (.int .i64 4) ∧ w = w' := by
  have h0 := tz_neg
  have h1 := tz_bits
  have h2 := hg.deb16
  have h3 := tz_mul
  clear hg
  go_enter Tryz.func181, Tryz.ntmps181
  go_wp2_with fail
  go_ret
  exact ⟨rfl, rfl⟩
theorem tz_16 (w : World) (hg : Glob w) : Calls Tryz.prog 164 #[.int .u64 16] w fun e w' => e = .returned (.int .i64 4) ∧ w = w' := by
  have HG := hide hg
  clear hg
  go_enter Tryz.func164, Tryz.ntmps164
  go_wp2_with fail
  refine (tz64_16 _ HG.out).mono ?_
  rintro e w' ⟨rfl, rfl⟩
  go_wp2_with fail
  go_ret
  exact ⟨rfl, rfl⟩
def digLit : Array UInt8 := #[48, 49, 50, 51, 52, 53, 54, 55, 56, 57, 97, 98, 99, 100, 101, 102, 103, 104, 105, 106, 107, 108, 109, 110, 111, 112, 113, 114, 115, 116, 117, 118, 119, 120, 121, 122]
theorem dig_at : ∀ d : Nat, d < 16 → ∀ w : World, (Instr.index 9 (.string ⟨#[48, 49, 50, 51, 52, 53, 54, 55, 56, 57, 97, 98, 99, 100, 101, 102, 103, 104, 105, 106, 107, 108, 109, 110, 111, 112, 113, 114, 115, 116, 117, 118, 119, 120, 121, 122]⟩) (.int .u64 (d : Int))).run Tryz.prog w = .ok (.int .u8 ((hexC d).toNat : Int)) w
  | 0, _, _ => by kernel_rfl
  | 1, _, _ => by kernel_rfl
  | 2, _, _ => by kernel_rfl
  | 3, _, _ => by kernel_rfl
  | 4, _, _ => by kernel_rfl
  | 5, _, _ => by kernel_rfl
  | 6, _, _ => by kernel_rfl
  | 7, _, _ => by kernel_rfl
  | 8, _, _ => by kernel_rfl
  | 9, _, _ => by kernel_rfl
  | 10, _, _ => by kernel_rfl
  | 11, _, _ => by kernel_rfl
  | 12, _, _ => by kernel_rfl
  | 13, _, _ => by kernel_rfl
  | 14, _, _ => by kernel_rfl
  | 15, _, _ => by kernel_rfl
  | k + 16, h, _ => absurd h (by omega)
/-- the array: m zeros, then the last 65 - m digits -/
def fillA (n m : Nat) : Array Value := (List.replicate m (Value.int .u8 0) ++ Lib.byteCells (hexN (65 - m) n)).toArray
theorem fillA_size {n m : Nat} (h : m ≤ 65) : (fillA n m).size = 65 := by simp [fillA, Lib.byteCells_length, hexN_len]; omega
theorem fillA_set {n m : Nat} (h : m < 65) : (fillA n (m + 1)).setIfInBounds m (.int .u8 ((hexC (n / 16 ^ (64 - m) % 16)).toNat : Int)) = fillA n m := by
  apply Array.toList_inj.1
  unfold fillA
  rw [Array.toList_setIfInBounds]
  have e : 65 - m = (64 - m) + 1 := by omega
  have e2 : 65 - (m + 1) = 64 - m := by omega
  rw [e, e2, hexN_cons, List.replicate_succ']
  simp only [List.append_assoc, List.cons_append, List.nil_append]
  rw [List.set_append_right _ _ (by simp)]
  simp [Lib.byteCells]
theorem and15 {U : Nat} (h : U < 18446744073709551616) : bits BinOp.and IntKind.u64 (U : Int) 15 = ((U % 16 : Nat) : Int) := by
  have h1 := u64_and_nat U 15 h (by decide)
  have h2 : U &&& 15 = U % 16 := Nat.and_two_pow_sub_one_eq_mod U 4
  rw [h2] at h1
  exact h1
theorem fillA_at {n j : Nat} (h : j < 65) : (fillA n (j + 1))[j]? = some (.int .u8 0) := by
  unfold fillA
  rw [List.getElem?_toArray, List.getElem?_append_left (by simp), List.getElem?_replicate, if_pos (by omega)]
theorem hexL_more {n k : Nat} (hn : n < 18446744073709551616) (h : 16 ≤ n / 16 ^ k) : k + 1 < hexL n := by
  obtain ⟨_, _, h3, _⟩ := hexL_spec hn
  rcases Nat.lt_or_ge (k + 1) (hexL n) with h4 | h4
  · exact h4
  · have h5 : 16 ^ hexL n ≤ 16 ^ (k + 1) := Nat.pow_le_pow_right (by decide) h4
    have h6 : 16 * 16 ^ k ≤ n := (Nat.le_div_iff_mul_le (Nat.pow_pos (by decide))).1 h
    rw [Nat.pow_succ] at h5
    omega
theorem hexL_end {n k : Nat} (hn : n < 18446744073709551616) (hk : k < hexL n) (h : ¬ 16 ≤ n / 16 ^ k) : k + 1 = hexL n := by
  obtain ⟨_, _, _, h4⟩ := hexL_spec hn
  rcases Nat.lt_or_ge (k + 1) (hexL n) with h5 | h5
  · have h6 := h4 (by omega)
    have h7 : 16 ^ (k + 1) ≤ 16 ^ (hexL n - 1) := Nat.pow_le_pow_right (by decide) (by omega)
    exact absurd ((Nat.le_div_iff_mul_le (Nat.pow_pos (by decide))).2 (by rw [Nat.pow_succ] at h7; omega)) h
  · omega
def FbI (w : World) (n A : Nat) (wr : World) (u i : Value) : Prop := ∃ m : Nat, 49 < m ∧ m ≤ 65 ∧ 65 - m < hexL n ∧ u = .int .u64 ((n / 16 ^ (65 - m) : Nat) : Int) ∧ i = .int .i64 (m : Int) ∧ Below w.heap.size w wr ∧ Blk wr A 173 (fillA n m)
set_option maxRecDepth 100000 in
set_option maxHeartbeats 4000000 in
theorem formatBits_16 (n : Nat) (hn : n < 18446744073709551616) (w : World) (hg : Glob w) :
    Calls Tryz.prog 142 #[.slice none 0 0, .int .u64 (n : Int), .int .i64 16, .bool false, .bool false] w fun e w' => e = .returned (.tuple #[.slice none 0 0, .string (bs (hexN (hexL n) n))]) ∧ Below w.heap.size w w' := by
  have HG := hide hg
  have HL := hide (hexL_spec hn)
  have HN := hide hn
  clear hg hn
  go_enter Tryz.func142, Tryz.ntmps142
  go_wp2_with fail
  have HA0 : Hid (Blk (w.alloc (.cells Tryz.zeroCells173 173)) w.heap.size 173 (fillA n 65)) := by
    have h := Blk.new w 173 Tryz.zeroCells173
    have e : Tryz.zeroCells173 = fillA n 65 := by show _ = (List.replicate 65 (Value.int .u8 0) ++ Lib.byteCells (hexN 0 n)).toArray; kernel_rfl
    rw [← e]; exact h
  have HB0 := hide (below_one w (.cells Tryz.zeroCells173 173))
  have HG0 := hide (HG.out.alloc (.cells Tryz.zeroCells173 173))
  have HS0 : Hid (w.heap.size ≤ (w.alloc (.cells Tryz.zeroCells173 173)).heap.size) := by show _ ≤ _; simp
  clear HG
  generalize w.alloc (.cells Tryz.zeroCells173 173) = w1 at *
  obtain ⟨A, HA⟩ : ∃ A, Hid (w.heap.size = A) := ⟨_, rfl⟩
  rw [HA.out] at HA0 ⊢
  refine (pow_16 _).mono ?_
  rintro e w' ⟨rfl, rfl⟩
  go_wp2_with fail
  refine (tz_16 _ HG0.out).mono ?_
  rintro e w' ⟨rfl, rfl⟩
  go_wp2_with fail
  go_loopw [1, 13] (fun u i wr => FbI w n A wr u i) (fun _ i _ => (intOf i).toNat)
  case atStart => exact ⟨65, by omega, by omega, by have := HL.out.1; omega, by simp, rfl, HB0.out, HA0.out⟩
  case round =>
    obtain ⟨m, hm1, hm2, hm3, rfl, rfl, hB, hK⟩ := hrel
    have HB := hide hB
    have HK := hide hK
    clear hB hK
    obtain ⟨j, rfl⟩ : ∃ j, m = j + 1 := ⟨m - 1, by omega⟩
    have e0 : 65 - (j + 1) = 64 - j := by omega
    rw [e0] at hm3 ⊢
    clear e0
    have HX : Hid (16 ≤ n / 16 ^ (64 - j) → 65 - j < hexL n) := fun h => by have := hexL_more HN.out h; omega
    have HY : Hid (¬ 16 ≤ n / 16 ^ (64 - j) → 65 - j = hexL n) := fun h => by have := hexL_end HN.out hm3 h; omega
    have HD : Hid (n / 16 ^ (65 - j) = n / 16 ^ (64 - j) / 16) := by
      show _ = _
      rw [show 65 - j = 64 - j + 1 by omega, Nat.pow_succ, Nat.div_div_eq_div_mul]
    have HF := hide (fillA_set (n := n) (m := j) (by omega))
    have hU : n / 16 ^ (64 - j) < 18446744073709551616 := Nat.lt_of_le_of_lt (Nat.div_le_self _ _) HN.out
    have hK : Hid (hexL n ≤ 16) := HL.out.2.1
    generalize n / 16 ^ (64 - j) = U at *
    have cj : wr.cell? ⟨A, j, none⟩ = some (.int .u8 0) := (HK.out.cell j).trans (fillA_at (by omega))
    have fj := HK.out.frozen j
    by_cases h16 : 16 ≤ U
    · have hb := and15 hU
      have hd := dig_at (U % 16) (Nat.mod_lt _ (by decide))
      have hlt := HX.out h16
      generalize hM : U % 16 = M at *
      have HM := hide hM
      clear hM
      go_wp2_with fail
      go_roundw
      case rel =>
        refine ⟨j, by have := hK.out; omega, by omega, hlt, by rw [HD.out]; rfl, rfl, HB.out.setCell (p := ⟨A, j, none⟩) (Nat.le_of_eq HA.out) _, ?_⟩
        have := HK.out.set_ j (.int .u8 ((hexC M).toNat : Int))
        rwa [HF.out] at this
      case measure => simp [intOf]
    · have hd := dig_at U (by omega)
      have j0 : (0 : Int) ≤ (j : Int) := by omega
      have j1 : (j : Int) ≤ 65 := by omega
      have HM : Hid (U % 16 = U) := Nat.mod_eq_of_lt (by omega)
      have HK2 : Hid (Blk (wr.setCell ⟨A, j, none⟩ (.int .u8 ((hexC U).toNat : Int))) A 173 (fillA n j)) := by
        have := HK.out.set_ j (.int .u8 ((hexC U).toNat : Int))
        rw [HM.out] at HF
        rwa [HF.out] at this
      have hcv := conv_bytes (P := Tryz.prog) (wr.setCell ⟨A, j, none⟩ (.int .u8 ((hexC U).toNat : Int))) 37 5 9 Tryz.underlying37 Tryz.underlying5 Tryz.underlying9 A j (hexN (65 - j) n) (65 - j) (65 - j) (hexN_len _ _).symm (fun i c hc => by
        rw [HK2.out.cell]
        unfold fillA
        rw [List.getElem?_toArray, List.getElem?_append_right (by simp)]
        simp [Lib.byteCells, hc])
      have HE := hide (HY.out h16)
      go_wp2_with fail
      go_ret2
      rw [HE.out]
      exact ⟨rfl, HB.out.setCell (p := ⟨A, j, none⟩) (Nat.le_of_eq HA.out) _⟩
set_option maxHeartbeats 2000000 in
theorem formatUint_16 (n : Nat) (hn : n < 18446744073709551616) (w : World) (hg : Glob w) :
    Calls Tryz.prog 156 #[.int .u64 (n : Int), .int .i64 16] w fun e w' => e = .returned (.string (bs (hexN (hexL n) n))) ∧ Below w.heap.size w w' := by
  have HG := hide hg
  have HN := hide hn
  clear hg hn
  go_enter Tryz.func156, Tryz.ntmps156
  go_wp2_with ((with_reducible refine (formatBits_16 n HN.out _ HG.out).mono ?_); rintro e w' ⟨rfl, hb⟩)
  go_ret
  exact ⟨rfl, hb⟩
set_option maxHeartbeats 2000000 in
theorem FormatUint_16 (n : Nat) (hn : n < 18446744073709551616) (w : World) (hg : Glob w) :
    Calls Tryz.prog 136 #[.int .u64 (n : Int), .int .i64 16] w fun e w' => e = .returned (.string (bs (hexN (hexL n) n))) ∧ Below w.heap.size w w' := by
  have HG := hide hg
  have HN := hide hn
  clear hg hn
  go_enter Tryz.func136, Tryz.ntmps136
  go_wp2_with ((with_reducible refine (formatUint_16 n HN.out _ HG.out).mono ?_); rintro e w' ⟨rfl, hb⟩)
  go_ret
  exact ⟨rfl, hb⟩
end Go.Proofs.YtfhanbiifjiklaaGreatDoor
