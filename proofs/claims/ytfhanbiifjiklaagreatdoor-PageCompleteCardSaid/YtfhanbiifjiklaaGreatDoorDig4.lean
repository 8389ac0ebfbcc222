/- Walks of package digest: Sum, Is. -/
import Derived.Test.YtfhanbiifjiklaaGreatDoorDig3
import Derived.Test.YtfhanbiifjiklaaGreatDoorFb
import Derived.Test.YtfhanbiifjiklaaGreatDoorShelf
import Derived.Test.YtfhanbiifjiklaaGreatDoorBu
import Derived.Lib.SlTrimSet
set_option linter.unusedVariables false
set_option linter.unusedSimpArgs false
namespace Go.Proofs.YtfhanbiifjiklaaGreatDoor
open Go.RowKit

set_option maxHeartbeats 2000000 in
theorem Sum_any (l : List UInt8) (hl : l.length ≤ 140737488355328) (w : World) (hg : Glob w) :
    Calls Tryz.prog 117 #[.string (bs l)] w fun e w' => e = .returned (.string (bs (sumD l))) ∧ Below w.heap.size w w' := by
  have HG := hide hg
  have hsz : (bs l).size = l.length := bs_size l
  have hx : bits BinOp.xor IntKind.u64 7640891576956012809 (l.length : Int) = ((stN l 0 : Nat) : Int) := u64_xor_nat 7640891576956012809 l.length (by decide) (by omega)
  have HN : Hid (sumN l < 18446744073709551616) := by show _ < _; rw [sumN_st]; exact stN_lt (by omega) _
  clear hg
  go_enter Tryz.func117, Tryz.ntmps117
  go_wp2_with fail
  have HS0 : Hid (Blk (w.alloc (.cells #[.int .u64 ((stN l 0 : Nat) : Int)] 143)) w.heap.size 143 (stCells (stN l 0))) := Blk.new w _ _
  have HB0 := hide (below_one w (.cells #[.int .u64 ((stN l 0 : Nat) : Int)] 143))
  refine (blocks_any l w.heap.size _ hl HS0.out).mono ?_
  rintro e w1 ⟨rfl, hb, hs⟩
  have HB1 := hide (HB0.out.trans hb)
  have HS1 := hide hs
  have c0 : w1.cell? ⟨w.heap.size, 0, none⟩ = some (.int .u64 (sumN l)) := hs.cell 0
  have HG1 := hide (HG.out.belowB HB1.out HG.out.top)
  clear hb hs HB0 HS0 HG hx
  obtain ⟨n, HD⟩ : ∃ n, Hid (sumN l = n) := ⟨_, rfl⟩
  rw [HD.out] at HN c0
  go_wp2_with fail
  refine (FormatUint_16 n HN.out _ HG1.out).mono ?_
  rintro e w2 ⟨rfl, hb⟩
  have HB2 := hide (below_to HB1.out (Nat.le_refl _) hb)
  clear hb HG1 c0 HS1
  obtain ⟨q1, q2, _, _⟩ := hexL_spec HN.out
  have HF : Hid (sumD l = List.replicate (16 - hexL n) 48 ++ hexN (hexL n) n) := by show _ = _; rw [hex_fill HN.out, ← HD.out]; rfl
  have hz : (bs (hexN (hexL n) n)).size = hexL n := by rw [bs_size, hexN_len]
  obtain ⟨X, HX⟩ : ∃ X, Hid (hexN (hexL n) n = X) := ⟨_, rfl⟩
  rw [HX.out] at HF hz ⊢
  generalize hexL n = k at *
  go_wp2_with fail
  rw [show (16 : Int) - (k : Int) = ((16 - k : Nat) : Int) by omega]
  refine (Tryz.strings_Repeat ⟨#[48]⟩ (16 - k) _ (by omega) (by show 1 * (16 - k) ≤ _; omega)).mono ?_
  rw [show Lib.repeatL (ByteArray.mk #[48]).data.toList (16 - k) = List.replicate (16 - k) 48 from repeat_zeros _]
  rintro e w3 ⟨rfl, hb⟩
  have HB3 := hide (below_to HB2.out (Nat.le_refl _) hb)
  clear hb
  have hr : (ByteArray.mk (List.replicate (16 - k) (48 : UInt8)).toArray).size = 16 - k := by rw [show ByteArray.mk (List.replicate (16 - k) (48 : UInt8)).toArray = bs (List.replicate (16 - k) 48) from rfl, bs_size]; simp
  go_wp2_with fail
  go_ret
  exact ⟨ret_str' (by rw [HF.out, ← bs_app]; rfl), HB3.out⟩
def hexSet : List UInt8 := [48, 49, 50, 51, 52, 53, 54, 55, 56, 57, 97, 98, 99, 100, 101, 102]
theorem hexSet_nat : ∀ k : Nat, k < 256 → hexSet.contains (UInt8.ofNat k) = isHex (UInt8.ofNat k) := by decide +kernel
theorem hexSet_iff (c : UInt8) : c ∈ hexSet ↔ isHex c = true := by
  have := hexSet_nat c.toNat c.toNat_lt
  rw [UInt8.ofNat_toNat] at this
  rw [← this]; simp
theorem hexSet_ascii : ∀ c ∈ hexSet, c.toNat < 128 := by decide
set_option maxHeartbeats 2000000 in
theorem Is_any (l : List UInt8) (hl : l.length ≤ 9223372036854775807) (w : World) : Calls Tryz.prog 67 #[.string (bs l)] w fun e w' => e = .returned (.bool (isD l)) ∧ Below w.heap.size w w' := by
  have hsz : (bs l).size = l.length := bs_size l
  by_cases h16 : l.length = 16
  · have h2 : (((l.length : Nat) : Int) == 16) = true := by simp; omega
    obtain ⟨X, HX⟩ : ∃ X, Hid (Lib.trimS l hexSet = X) := ⟨_, rfl⟩
    have HD : Hid (isD l = X.isEmpty) := by
      show _ = _
      rw [Bool.eq_iff_iff, isD_iff, List.isEmpty_iff, ← HX.out, trimS_nil]
      constructor
      · exact fun h c hc => (hexSet_iff c).2 (h.2 c hc)
      · exact fun h => ⟨h16, fun c hc => (hexSet_iff c).1 (h c hc)⟩
    have HL := hide hl
    clear h16 hl
    go_enter Tryz.func67, Tryz.ntmps67
    go_wp2_with fail
    refine (Tryz.strings_Trim_laid (bs l) (bs hexSet) _ (by rw [bs_size]; exact HL.out) (by rw [bs_size]; decide) (fun j b h => hexSet_ascii b (by rw [bs_list] at h; exact List.mem_of_getElem? h))).mono ?_
    rw [bs_list, bs_list, HX.out]
    rintro e w1 ⟨rfl, hb⟩
    have HB := hide hb
    clear hb
    have e1 : (ByteArray.mk X.toArray).toList = X := bs_toList X
    cases hX : X.isEmpty
    · have HX2 := hide hX
      rw [hX] at HD
      go_wp2_with fail
      go_ret
      exact ⟨ret_bool HD.out.symm, HB.out⟩
    · rw [hX] at HD
      go_wp2_with fail
      go_ret
      exact ⟨ret_bool HD.out.symm, HB.out⟩
  · have h2 : (((l.length : Nat) : Int) == 16) = false := by simp; omega
    have HD : Hid (isD l = false) := by show _ = _; rw [← Bool.not_eq_true, isD_iff]; exact fun h => h16 h.1
    clear h16
    go_enter Tryz.func67, Tryz.ntmps67
    go_wp2_with fail
    go_ret
    exact ⟨ret_bool HD.out.symm, Below.refl _ _⟩
end Go.Proofs.YtfhanbiifjiklaaGreatDoor
