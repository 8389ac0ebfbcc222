/- Walks of package digest: take, blocks. -/
import Derived.Test.YtfhanbiifjiklaaGreatDoorCl2
import Derived.Test.YtfhanbiifjiklaaGreatDoorBs
import Derived.Test.YtfhanbiifjiklaaGreatDoorDig1
import Derived.Laws.Bits64
import Derived.Laws.BitsAllLaws
import Derived.Outline
set_option linter.unusedVariables false
set_option linter.unusedSimpArgs false
namespace Go.Proofs.YtfhanbiifjiklaaGreatDoor
open Go.RowKit

theorem or_byte {N c : Nat} (h : N < 256 ^ 7) (hc : c < 256) : Value.int .u64 (bits BinOp.or IntKind.u64 ((N : Int) * 256) (c : Int)) = .int .u64 ((N * 256 + c : Nat) : Int) := by
  have h1 := u64_or_nat (N * 256) c (by omega) (by omega)
  have h2 := Nat.two_pow_add_eq_or_of_lt (i := 8) (b := c) (by omega) N
  rw [show ((N : Int) * 256) = ((N * 256 : Nat) : Int) by simp, h1, Nat.mul_comm N 256, ← h2]
theorem mix_val (X : Nat) (hX : X < 18446744073709551616) :
    bits BinOp.xor IntKind.u64 (IntKind.u64.wrap (bits BinOp.xor IntKind.u64 (IntKind.u64.wrap (bits BinOp.xor IntKind.u64 (X : Int) ((X : Int) / 2147483648) * 11400714819323198485)) (IntKind.u64.wrap (bits BinOp.xor IntKind.u64 (X : Int) ((X : Int) / 2147483648) * 11400714819323198485) / 134217728) * 15074714826142052245))
      (IntKind.u64.wrap (bits BinOp.xor IntKind.u64 (IntKind.u64.wrap (bits BinOp.xor IntKind.u64 (X : Int) ((X : Int) / 2147483648) * 11400714819323198485)) (IntKind.u64.wrap (bits BinOp.xor IntKind.u64 (X : Int) ((X : Int) / 2147483648) * 11400714819323198485) / 134217728) * 15074714826142052245) / 8589934592) = ((mixN X : Nat) : Int) := by
  have h1 := mixStep_u64 X 2147483648 11400714819323198485 hX
  have e1 : (((2147483648 : Nat) : Int)) = 2147483648 := rfl
  have e2 : (((11400714819323198485 : Nat) : Int)) = 11400714819323198485 := rfl
  rw [e1, e2] at h1
  rw [h1]
  have ha : (X ^^^ X / 2147483648) * 11400714819323198485 % 18446744073709551616 < 18446744073709551616 := Nat.mod_lt _ (by decide)
  have hm : mixN X = (let a := (X ^^^ X / 2147483648) * 11400714819323198485 % 18446744073709551616; let b := (a ^^^ a / 134217728) * 15074714826142052245 % 18446744073709551616; b ^^^ b / 8589934592) := rfl
  rw [hm]
  generalize (X ^^^ X / 2147483648) * 11400714819323198485 % 18446744073709551616 = a at *
  simp only
  have h2 := mixStep_u64 a 134217728 15074714826142052245 ha
  have e3 : (((134217728 : Nat) : Int)) = 134217728 := rfl
  have e4 : (((15074714826142052245 : Nat) : Int)) = 15074714826142052245 := rfl
  rw [e3, e4] at h2
  rw [h2]
  have hb : (a ^^^ a / 134217728) * 15074714826142052245 % 18446744073709551616 < 18446744073709551616 := Nat.mod_lt _ (by decide)
  generalize (a ^^^ a / 134217728) * 15074714826142052245 % 18446744073709551616 = b at *
  have h3 := xorShift_u64 b 8589934592 hb
  have e5 : (((8589934592 : Nat) : Int)) = 8589934592 := rfl
  rw [e5] at h3
  exact h3
def stCells (s : Nat) : Array Value := #[.int .u64 (s : Int)]
def TakeI (l : List UInt8) (n i j : Value) : Prop := ∃ k : Nat, k ≤ 8 ∧ j = .int .i64 k ∧ n = .int .u64 (packN (l.take k) : Int)
set_option maxHeartbeats 2000000 in
theorem take_any (sb s : Nat) (l : List UInt8) (hl : l.length = 8) (hs : s < 18446744073709551616) (w : World) (hS : Blk w sb 143 (stCells s)) :
    Calls Tryz.prog 135 #[.pointer (some ⟨sb, 0, none⟩), .agg (Lib.byteCells l).toArray] w fun e w' => e = .returned (.tuple #[]) ∧ Below sb w w' ∧ Blk w' sb 143 (stCells (stepN s l)) := by
  have HBl := hide (Blk.new w 165 (Lib.byteCells l).toArray)
  have HSs := hide (hS.alloc (.cells (Lib.byteCells l).toArray 165))
  have HL := hide hl
  have HBs := hide ((Below.refl sb w).alloc (Nat.le_of_lt hS.lt) (.cells (Lib.byteCells l).toArray 165))
  go_enter Tryz.func135, Tryz.ntmps135
  go_wp2_with fail
  generalize w.alloc (.cells (Lib.byteCells l).toArray 165) = w1 at *
  generalize w.heap.size = B at *
  clear hl hS
  go_loop [4, 5, 7] (fun n i j => TakeI l n i j) (fun _ _ j => 8 - (intOf j).toNat)
  case atStart => exact ⟨0, by omega, rfl, rfl⟩
  case round =>
    obtain ⟨k, hk, rfl, rfl⟩ := hrel
    by_cases hlt : k < 8
    · obtain ⟨c, hc⟩ : ∃ c, l[k]? = some c := ⟨_, List.getElem?_eq_getElem (by have := HL.out; omega)⟩
      have cc : w1.cell? ⟨B, k, none⟩ = some (.int .u8 c.toNat) := by rw [HBl.out.cell]; simp [Lib.byteCells, hc]
      have c8 := c.toNat_lt
      have hp : packN (l.take k) < 256 ^ 7 := by
        have h1 := packN_lt (l.take k)
        have h2 : 256 ^ (l.take k).length ≤ 256 ^ 7 := Nat.pow_le_pow_right (by decide) (by simp; omega)
        omega
      have HN : Hid (packN (l.take (k + 1)) = packN (l.take k) * 256 + c.toNat) := by
        show _ = _
        rw [List.take_add_one, hc]
        exact packN_snoc _ _
      clear hc
      generalize packN (l.take k) = N at *
      go_wp2_with fail
      go_round
      case rel => exact ⟨k + 1, by omega, by go_num, by rw [HN.out, or_byte hp c8]⟩
      case measure => simp [intOf]; omega
    · obtain rfl : k = 8 := by omega
      have HP : Hid (packN (l.take 8) = packN l) := by show _ = _; rw [List.take_of_length_le (by have := HL.out; omega)]
      rw [HP.out]
      have hp : packN l < 18446744073709551616 := packN_lt64 (by have := HL.out; omega)
      have HT : Hid (stepN s l = mixN (s ^^^ packN l)) := rfl
      generalize packN l = N at *
      have hx := u64_xor_nat s N hs hp
      have c0 : w1.cell? ⟨sb, 0, none⟩ = some (.int .u64 s) := HSs.out.cell 0
      have f0 := HSs.out.frozen 0
      go_wp2_with fail
      rw [mix_val _ (xor_lt64 hs hp), ← HT.out]
      go_end0
      exact ⟨rfl, HBs.out.setCell (p := ⟨sb, 0, none⟩) (Nat.le_refl _) _, HSs.out.set_ 0 _⟩
end Go.Proofs.YtfhanbiifjiklaaGreatDoor
