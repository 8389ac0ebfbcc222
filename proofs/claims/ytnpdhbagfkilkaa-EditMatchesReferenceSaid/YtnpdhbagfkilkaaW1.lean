/- Walks: small functions of the reference and the law's helpers. -/
import Derived.Test.YtnpdhbagfkilkaaBase
import Derived.Test.YtnpdhbagfkilkaaPlain
set_option linter.unusedVariables false
set_option linter.unusedSimpArgs false
namespace Go.Proofs.Ytnpdhbagfkilkaa
open Go.RowKit


theorem take_snoc (s : ByteArray) (k : Nat) (h : k < s.size) : s.data.toList.take (k + 1) = s.data.toList.take k ++ [s[k]] := by
  rw [List.take_succ_eq_append_getElem (by simpa using h)]; rfl

theorem okByte_iff (c : UInt8) : okByte c = true ↔ 32 ≤ (c.toNat : Int) ∧ (c.toNat : Int) ≤ 126 := by
  unfold okByte
  simp [UInt8.le_iff_toNat_le]; omega
theorem toList_length (s : ByteArray) : s.data.toList.length = s.size := by simp

theorem okText_bad (s : ByteArray) (k : Nat) (h : k < s.size) (hb : okByte s[k] = false) : okText s.data.toList = false := by
  unfold okText
  have : s.data.toList.all okByte = false := by
    rw [List.all_eq_false]
    exact ⟨s[k], by simp; exact Array.getElem_mem h, by simp [hb]⟩
  simp [this]
theorem okText_good (s : ByteArray) (h : (s.data.toList.take s.size).all okByte = true) : okText s.data.toList = decide (s.size ≤ 120) := by
  unfold okText
  rw [List.take_of_length_le (by simp)] at h
  simp [h]

set_option maxHeartbeats 400000 in
theorem isText1_any (r : Int) (w : World) :
    Calls Try.prog 38 #[.int .i32 r] w fun e w' => e = .returned (.bool (decide (r < 32) || decide (126 < r))) ∧ w = w' := by
  by_cases h1 : r < 32
  · go_enter Try.func38, Try.ntmps38
    go_wp2
    go_ret
    exact ⟨by simp [h1], rfl⟩
  · by_cases h2 : 126 < r
    all_goals
      go_enter Try.func38, Try.ntmps38
      go_wp2
      go_ret
      exact ⟨by simp [h1, h2], rfl⟩

set_option maxHeartbeats 400000 in
theorem refText_any (s : ByteArray) (w : World) (hs : s.size ≤ maxLen) :
    Calls Try.prog 29 #[.string s] w fun e w' => e = .returned (.bool (okText s.data.toList)) ∧ w = w' := by
  unfold maxLen at hs
  go_enter Try.func29, Try.ntmps29
  go_wp2
  go_loop [3] (fun i => ∃ k : Nat, k ≤ s.size ∧ i = .int .i64 k ∧ (s.data.toList.take k).all okByte = true) (fun i => s.size - (intOf i).toNat)
  case atStart => exact ⟨0, Nat.zero_le _, rfl, rfl⟩
  case round =>
    obtain ⟨k, hk, rfl, hall⟩ := hrel
    have Hall := hide hall
    clear hall
    by_cases hlt : k < s.size
    · have HT := hide (take_snoc s k hlt)
      have HB := hide (okByte_iff s[k])
      by_cases h1 : (s[k].toNat : Int) < 32
      · have HF := hide (okText_bad s k hlt (by rw [← Bool.not_eq_true, okByte_iff]; omega))
        go_wp2
        go_ret
        exact ⟨ret_bool (by rw [HF.out]), rfl⟩
      · by_cases h2 : (126 : Int) < (s[k].toNat : Int)
        · have HF := hide (okText_bad s k hlt (by rw [← Bool.not_eq_true, okByte_iff]; omega))
          go_wp2
          go_ret
          exact ⟨ret_bool (by rw [HF.out]), rfl⟩
        · go_wp2
          go_round
          case rel => exact ⟨k + 1, by omega, by go_num, by rw [HT.out, List.all_append, Hall.out]; simpa using HB.out.2 ⟨by omega, by omega⟩⟩
          case measure => simp [intOf]; omega
    · obtain rfl : k = s.size := by omega
      have HF := hide (okText_good s Hall.out)
      go_wp2
      go_ret
      exact ⟨ret_bool (by rw [HF.out]; simp; omega), rfl⟩
end Go.Proofs.Ytnpdhbagfkilkaa
