/- Walks: edit.isText, edit.Distance. -/
import Derived.Test.YtnpdhbagfkilkaaW7
import Derived.Test.YtnpdhbagfkilkaaShelf
import Derived.Laws.RangeAny
import Derived.Laws.RangeString
set_option linter.unusedVariables false
set_option linter.unusedSimpArgs false
namespace Go.Proofs.Ytnpdhbagfkilkaa
open Go.RowKit

def badRune (r : Nat) : Bool := decide ((r : Int) < 32) || decide (126 < (r : Int))
theorem enters1 : ∀ (args : Array Value) (w : World), (callFunc 38 args).run Try.prog w = .ok (.enter 38 args) w := enters_of Try.func38 (by kernel_rfl) rfl
theorem pred1 (w : World) : PredAt Try.prog 38 #[] encR badRune w := fun W r _ => by
  unfold FnGives
  show Calls Try.prog 38 #[.int .i32 (r : Int)] W _
  exact (isText1_any (r : Int) W).mono fun e w' ⟨he, hw⟩ => ⟨he, 0, hw.symm⟩

theorem idx_bad (s : ByteArray) : ∀ (f pos : Nat), s.size - pos ≤ f → pos ≤ s.size → (0 ≤ Lib.idxFuncFrom badRune true s f pos ↔ ∃ k, ∃ h : k < s.size, pos ≤ k ∧ okByte s[k] = false)
  | 0, pos, hf, hp => by
    have : ¬ pos < s.size := by omega
    rw [Lib.idxFuncFrom_end _ _ _ _ _ this]
    constructor
    · intro h; omega
    · rintro ⟨k, h, hk, _⟩; omega
  | f + 1, pos, hf, hp => by
    by_cases hlt : pos < s.size
    · unfold Lib.idxFuncFrom
      by_cases hb : okByte s[pos] = true
      · have hb' := (okByte_iff _).1 hb
        have hd := decode_ascii s pos hlt (by omega)
        have hn : badRune (s[pos].toNat) = false := by simp [badRune]; omega
        simp only [hlt, if_true, hd, hn]
        simp only [Bool.false_eq_true, Bool.false_eq, if_false, reduceCtorEq]
        rw [idx_bad s f (pos + 1) (by omega) (by omega)]
        constructor
        · rintro ⟨k, h, hk, hbk⟩
          exact ⟨k, h, by omega, hbk⟩
        · rintro ⟨k, h, hk, hbk⟩
          refine ⟨k, h, ?_, hbk⟩
          rcases Nat.lt_or_ge pos k with h1 | h1
          · omega
          · obtain rfl : k = pos := by omega
            rw [hb] at hbk; cases hbk
      · have hbad : badRune (Utf8.decode s pos).1 = true := by
          by_cases ha : s[pos].toNat < 128
          · rw [decode_ascii s pos hlt ha]
            have : ¬ (32 ≤ (s[pos].toNat : Int) ∧ (s[pos].toNat : Int) ≤ 126) := fun h => hb ((okByte_iff _).2 h)
            simp [badRune]; omega
          · have := decode_high s pos hlt (by omega)
            simp [badRune]; omega
        simp only [hlt, if_true, hbad]
        constructor
        · intro _
          exact ⟨pos, hlt, Nat.le_refl _, by simpa using hb⟩
        · intro _; omega
    · rw [Lib.idxFuncFrom_end _ _ _ _ _ hlt]
      constructor
      · intro h; omega
      · rintro ⟨k, h, hk, _⟩; omega

theorem idx_ok (s : ByteArray) : (decide (0 ≤ Lib.idxFunc badRune true s)) = !(s.data.toList.all okByte) := by
  unfold Lib.idxFunc
  rw [Bool.eq_iff_iff]
  simp only [decide_eq_true_eq, idx_bad s s.size 0 (by omega) (by omega), Bool.not_eq_true', List.all_eq_false]
  constructor
  · rintro ⟨k, h, _, hb⟩
    exact ⟨s[k], by simp; exact Array.getElem_mem h, by simp [hb]⟩
  · rintro ⟨c, hc, hb⟩
    obtain ⟨k, hk, rfl⟩ := List.getElem_of_mem hc
    refine ⟨k, by simpa using hk, by omega, ?_⟩
    simp only [Bool.not_eq_true] at hb
    exact hb

set_option maxHeartbeats 400000 in
theorem isText_any (s : ByteArray) (w : World) (hs : s.size ≤ maxLen) :
    Calls Try.prog 26 #[.string s] w fun e w' => e = .returned (.bool (okText s.data.toList)) ∧ Below w.heap.size w w' := by
  unfold maxLen at hs
  have HI := hide (idx_ok s)
  by_cases hall : s.data.toList.all okByte = true
  · have HF : Hid (okText s.data.toList = decide (s.size ≤ 120)) := by
      show _ = _
      simp [okText, hall]
    have hc : decide (0 ≤ Lib.idxFunc badRune true s) = false := by rw [HI.out, hall]; rfl
    clear hall
    go_enter Try.func26, Try.ntmps26
    go_wp2_with (go_at_call 37; refine (Try.strings_ContainsFunc 38 #[] enters1 badRune s _ (pred1 _)).mono ?_; rintro e w1 ⟨rfl, hb⟩)
    go_ret
    exact ⟨ret_bool (by rw [HF.out]; simp; try omega), hb⟩
  · have HF : Hid (okText s.data.toList = false) := by
      show _ = _
      simp only [Bool.not_eq_true] at hall
      simp [okText, hall]
    have hc : decide (0 ≤ Lib.idxFunc badRune true s) = true := by rw [HI.out]; simp only [Bool.not_eq_true] at hall; rw [hall]; rfl
    clear hall
    go_enter Try.func26, Try.ntmps26
    go_wp2_with (go_at_call 37; refine (Try.strings_ContainsFunc 38 #[] enters1 badRune s _ (pred1 _)).mono ?_; rintro e w1 ⟨rfl, hb⟩)
    go_ret
    exact ⟨ret_bool (by rw [HF.out]), hb⟩
end Go.Proofs.Ytnpdhbagfkilkaa
