/- Walks: strconv.ParseInt at one hexadecimal digit, base 16. -/
import Derived.Test.YtdgbnplieaaokaaGreatDoorGl
import Derived.Test.YtdgbnplieaaokaaGreatDoorBs
import Derived.Test.YtdgbnplieaaokaaGreatDoorDig1
import Derived.Test.YtdgbnplieaaokaaGreatDoorShelf
import Derived.Test.YtdgbnplieaaokaaGreatDoorBy
import Derived.Laws.BitsAllLaws
import Derived.Laws.IdiomStrings
import Derived.Outline
set_option linter.unusedVariables false
set_option linter.unusedSimpArgs false
namespace Go.Proofs.YtdgbnplieaaokaaGreatDoor
open Go.RowKit

/-- a hexadecimal digit's value -/
def hexV (c : UInt8) : Nat := if c.toNat ≤ 57 then c.toNat - 48 else c.toNat - 87
theorem hexV_lt : ∀ k : Nat, k < 256 → isHex (UInt8.ofNat k) = true → hexV (UInt8.ofNat k) < 16 := by decide +kernel
theorem hexV_lt16 {c : UInt8} (h : isHex c = true) : hexV c < 16 := by
  have := hexV_lt c.toNat c.toNat_lt
  rw [UInt8.ofNat_toNat] at this
  exact this h
theorem low_bits : ∀ k : Nat, k < 256 → 97 ≤ k → k ≤ 102 → bits BinOp.or IntKind.u8 (k : Int) 32 = (k : Int) := by decide +kernel
theorem wr0 : IntKind.u64.wrap 18446744073709551616 = 0 := by decide +kernel
theorem wr1 : IntKind.u64.wrap (-1) = 18446744073709551615 := by decide +kernel
def PuI (c : UInt8) (u n j : Value) : Prop := ∃ k : Nat, k ≤ 1 ∧ u = .bool false ∧ j = .int .i64 (k : Int) ∧ n = .int .u64 ((if k = 0 then 0 else hexV c : Nat) : Int)
set_option maxRecDepth 100000 in
set_option maxHeartbeats 4000000 in
theorem parseUint_hex (c : UInt8) (hc : isHex c = true) (w : World) : Calls Tryz.prog 80 #[.string (bs [c]), .int .i64 16, .int .i64 0] w fun e w' => e = .returned (.tuple #[.int .u64 (hexV c : Int), .nilIface]) ∧ Below w.heap.size w w' := by
  have h8 := c.toNat_lt
  have hem : (bs [c]).toList.isEmpty = false := by rw [bs_toList]; rfl
  have hsz : (bs [c]).size = 1 := by rw [bs_size]; rfl
  have e0 := wr0
  have e1 := wr1
  go_enter Tryz.func80, Tryz.ntmps80
  go_wp2_with ((with_reducible show wpList _ _ _ (Oper.mk _ (Op.convert 9 59 (.tmp 98)) _ _ _ _ :: _) _ _); refine wpList_bytes_of rfl 9 59 5 (.tmp 98) rfl Tryz.underlying9 Tryz.underlying59 Tryz.underlying5 [c] rfl ?_; intro w1 cap hcap hby hbel)
  have HB := hide hbel
  have c0 := hby.cell 0 c rfl
  clear hby hbel hcap
  go_loop [12, 13, 101] (fun u n j => PuI c u n j) (fun _ _ j => 1 - (intOf j).toNat)
  case atStart => exact ⟨0, by omega, rfl, rfl, rfl⟩
  case round =>
    obtain ⟨k, hk, rfl, rfl, rfl⟩ := hrel
    by_cases hk0 : k = 0
    · subst hk0
      unfold isHex at hc
      simp only [Bool.or_eq_true, Bool.and_eq_true, decide_eq_true_eq] at hc
      rcases hc with ⟨h1, h2⟩ | ⟨h1, h2⟩
      · have HV : Hid (hexV c = c.toNat - 48) := by show _ = _; unfold hexV; rw [if_pos h2]
        go_wp2_with fail
        go_round
        case rel => exact ⟨1, by omega, rfl, rfl, by rw [HV.out]; go_num⟩
        case measure => simp [intOf]
      · have HV : Hid (hexV c = c.toNat - 87) := by show _ = _; unfold hexV; rw [if_neg (by omega)]
        have hlow := low_bits c.toNat h8 h1 h2
        go_wp2_with ((with_reducible refine (Tryz.internal_strconv_lower _ _).mono ?_); rw [hlow]; rintro e w' ⟨rfl, rfl⟩)
        go_round
        case rel => exact ⟨1, by omega, rfl, rfl, by rw [HV.out]; go_num⟩
        case measure => simp [intOf]
    · obtain rfl : k = 1 := by omega
      go_wp2_with fail
      go_ret2
      exact ⟨rfl, HB.out⟩
theorem shl63 : IntKind.u64.wrap 9223372036854775808 = 9223372036854775808 := by decide +kernel
set_option maxRecDepth 100000 in
set_option maxHeartbeats 4000000 in
theorem parseInt_hex (c : UInt8) (hc : isHex c = true) (w : World) : Calls Tryz.prog 59 #[.string (bs [c]), .int .i64 16, .int .i64 0] w fun e w' => e = .returned (.tuple #[.int .i64 (hexV c : Int), .nilIface]) ∧ Below w.heap.size w w' := by
  have h8 := c.toNat_lt
  have hem : (bs [c]).toList.isEmpty = false := by rw [bs_toList]; rfl
  have hsz : (bs [c]).size = 1 := by rw [bs_size]; rfl
  have hb0 : ∀ w, (Instr.index 9 (.string (bs [c])) (.int .i64 0)).run Tryz.prog w = .ok (.int .u8 (c.toNat : Int)) w := fun w => index_bs [c] 0 c rfl w
  have hv := hexV_lt16 hc
  have HC := hide hc
  have n1 : ((c.toNat : Int) == 43) = false := by unfold isHex at hc; simp only [Bool.or_eq_true, Bool.and_eq_true, decide_eq_true_eq] at hc; simp; omega
  have n2 : ((c.toNat : Int) == 45) = false := by unfold isHex at hc; simp only [Bool.or_eq_true, Bool.and_eq_true, decide_eq_true_eq] at hc; simp; omega
  clear hc
  go_enter Tryz.func59, Tryz.ntmps59
  go_wp2_with fail
  refine (parseUint_hex c HC.out _).mono ?_
  rintro e w1 ⟨rfl, hb⟩
  have HB := hide hb
  clear hb
  have x0 : (0 : Int) ≤ (hexV c : Int) := by omega
  have x1 : (hexV c : Int) < 16 := by omega
  have x2 : (hexV c : Int) < 9223372036854775808 := by omega
  clear hv
  obtain ⟨v, HV⟩ : ∃ v, Hid (((hexV c : Nat) : Int) = v) := ⟨_, rfl⟩
  (try rw [HV.out] at x0 x1 x2)
  rw [HV.out]
  go_wp2_with fail
  go_ret2
  exact ⟨by rw [HV.out]; rfl, HB.out⟩
set_option maxHeartbeats 2000000 in
theorem ParseInt_hex (c : UInt8) (hc : isHex c = true) (w : World) : Calls Tryz.prog 36 #[.string (bs [c]), .int .i64 16, .int .i64 0] w fun e w' => e = .returned (.tuple #[.int .i64 (hexV c : Int), .nilIface]) ∧ Below w.heap.size w w' := by
  have HC := hide hc
  clear hc
  go_enter Tryz.func36, Tryz.ntmps36
  go_wp2_with fail
  refine (parseInt_hex c HC.out _).mono ?_
  rintro e w1 ⟨rfl, hb⟩
  have HB := hide hb
  clear hb
  obtain ⟨v, HV⟩ : ∃ v, Hid (((hexV c : Nat) : Int) = v) := ⟨_, rfl⟩
  (try rw [HV.out] at x0 x1 x2)
  rw [HV.out]
  go_wp2_with fail
  go_ret2
  exact ⟨by rw [HV.out]; rfl, HB.out⟩
end Go.Proofs.YtdgbnplieaaokaaGreatDoor
