/- Walks of package number: place, letter, Valid, Odd. -/
import Derived.Test.YtabphhclnboknaaDoorW1
set_option linter.unusedVariables false
set_option linter.unusedSimpArgs false
namespace Go.Proofs.YtabphhclnboknaaDoor
open Go.RowKit

def nth (k : Nat) : Int × Int := partL.getD k (0, 0)
theorem run_parts : ∀ (k : Nat), k < 28 → ∀ w : World, (Instr.index 66 (.agg partsA) (.int .i64 (k : Int))).run Tryd.prog w = .ok (.agg #[.int .i64 (nth k).1, .int .i64 (nth k).2]) w
  | 0, _, _ => by kernel_rfl
  | 1, _, _ => by kernel_rfl
  | 2, _, _ => by kernel_rfl
  | 3, _, _ => by kernel_rfl
  | 4, _, _ => by kernel_rfl
  | 5, _, _ => by kernel_rfl
  | 6, _, _ => by kernel_rfl
  | 7, _, _ => by kernel_rfl
  | 8, _, _ => by kernel_rfl
  | 9, _, _ => by kernel_rfl
  | 10, _, _ => by kernel_rfl
  | 11, _, _ => by kernel_rfl
  | 12, _, _ => by kernel_rfl
  | 13, _, _ => by kernel_rfl
  | 14, _, _ => by kernel_rfl
  | 15, _, _ => by kernel_rfl
  | 16, _, _ => by kernel_rfl
  | 17, _, _ => by kernel_rfl
  | 18, _, _ => by kernel_rfl
  | 19, _, _ => by kernel_rfl
  | 20, _, _ => by kernel_rfl
  | 21, _, _ => by kernel_rfl
  | 22, _, _ => by kernel_rfl
  | 23, _, _ => by kernel_rfl
  | 24, _, _ => by kernel_rfl
  | 25, _, _ => by kernel_rfl
  | 26, _, _ => by kernel_rfl
  | 27, _, _ => by kernel_rfl
  | n + 28, h, _ => by omega
def noneTo (p : Int × Int) (k : Nat) : Prop := ∀ j, j < k → nth j ≠ p
theorem noneTo_succ {p : Int × Int} {k : Nat} (h : noneTo p k) (hk : nth k ≠ p) : noneTo p (k + 1) := fun j hj => by
  rcases Nat.lt_or_ge j k with h1 | h1
  · exact h j h1
  · obtain rfl : j = k := by omega
    exact hk
theorem place_at {p : Int × Int} {k : Nat} (h : noneTo p k) (hk : k < 28) (e : nth k = p) : place p = k := by
  have hl : partL.length = 28 := rfl
  unfold place
  have : partL.findIdx? (· == p) = some k := by
    rw [List.findIdx?_eq_some_iff_getElem]
    refine ⟨by omega, ?_, fun j hj => ?_⟩
    · have : nth k = partL[k]'(by omega) := by unfold nth; rw [List.getD_eq_getElem?_getD, List.getElem?_eq_getElem]; rfl
      rw [← this, e]; simp
    · have h1 := h j hj
      have : nth j = partL[j]'(by omega) := by unfold nth; rw [List.getD_eq_getElem?_getD, List.getElem?_eq_getElem]; rfl
      rw [this] at h1
      simpa using h1
  rw [this]
theorem place_no {p : Int × Int} (h : noneTo p 28) : place p = -1 := by
  unfold place
  have : partL.findIdx? (· == p) = none := by
    rw [List.findIdx?_eq_none_iff]
    intro x hx
    obtain ⟨j, hj, rfl⟩ := List.getElem_of_mem hx
    have h1 := h j hj
    have : nth j = partL[j] := by unfold nth; rw [List.getD_eq_getElem?_getD, List.getElem?_eq_getElem hj]; rfl
    rw [this] at h1
    simpa using h1
  rw [this]
def PlI (w wr : World) (p : Int × Int) (t : Value) : Prop := ∃ k : Nat, k ≤ 28 ∧ t = .int .i64 k ∧ noneTo p k ∧ Below w.heap.size w wr

set_option maxHeartbeats 2000000 in
set_option maxRecDepth 100000 in
theorem place_any (a b : Int) (w : World) : Calls Tryd.prog 30 #[.int .i64 a, .int .i64 b] w fun e w' => e = .returned (.int .i64 (place (a, b))) ∧ Below w.heap.size w w' := by
  go_enter Tryd.func30, Tryd.ntmps30
  go_wp2_with (go_at_call 48; refine (parts_any _).mono ?_; rintro e w1 ⟨rfl, hb⟩; have HB := hide hb; clear hb)
  go_loopw [8] (fun t wr => PlI w wr (a, b) t) (fun t _ => 28 - (intOf t).toNat)
  case atStart => exact ⟨0, by omega, rfl, fun j hj => by omega, HB.out⟩
  case round =>
    clear HB
    obtain ⟨k, hk, rfl, hno, hb⟩ := hrel
    have HN := hide hno
    have HB := hide hb
    clear hno hb
    by_cases hlt : k < 28
    · have hix := run_parts k hlt
      have hki : (k : Int) < 28 := by omega
      obtain ⟨p1, p2, hp⟩ : ∃ p1 p2, nth k = (p1, p2) := ⟨_, _, rfl⟩
      rw [hp] at hix
      have HP := hide hp
      clear hp
      by_cases h1 : p1 = a ∧ p2 = b
      · obtain ⟨e1, e2⟩ := h1
        have HF : Hid (place (a, b) = k) := place_at HN.out hlt (by rw [HP.out, e1, e2])
        subst e1 e2
        go_wp2
        go_ret
        exact ⟨ret_int HF.out.symm, HB.out.alloc HB.out.size _⟩
      · have HF : Hid (noneTo (a, b) (k + 1)) := noneTo_succ HN.out (by rw [HP.out]; intro e; simp only [Prod.mk.injEq] at e; exact h1 e)
        have hb : ((p1 == a) && (p2 == b)) = false := by
          rw [Bool.and_eq_false_iff]
          rcases Classical.em (p1 = a) with e | e
          · right; simp; intro e2; exact h1 ⟨e, e2⟩
          · left; simpa using e
        go_wp2
        all_goals
          go_roundw
          case rel => first | exact ⟨k + 1, by omega, by go_num, HF.out, HB.out.alloc HB.out.size _⟩ | ((repeat apply Exists.intro); exact ⟨⟨k + 1, by omega, by go_num, HF.out, HB.out.alloc HB.out.size _⟩, rfl⟩)
          case measure => simp [intOf]; try omega
    · have HF : Hid (place (a, b) = -1) := by
        obtain rfl : k = 28 := by omega
        exact place_no HN.out
      have hge : ¬ (k : Int) < 28 := by omega
      go_wp2
      go_ret
      exact ⟨ret_int HF.out.symm, HB.out⟩

/-- a house number as a value -/
def letS (l : List UInt8) : ByteArray := ⟨l.toArray⟩
def hval (h : HN) : Value := .agg #[.int .i64 h.n, .string ⟨h.l.toArray⟩, .int .i64 h.num, .int .i64 h.den]

theorem isEmpty_size (s : ByteArray) : s.toList.isEmpty = decide (s.size = 0) := by
  rw [← decide_eq_emptyBytes]
  congr 1
  apply propext
  constructor
  · rintro rfl; rfl
  · intro h
    apply ByteArray.ext
    apply Array.ext'
    have : s.data.toList.length = 0 := by simpa using h
    rw [List.length_eq_zero_iff] at this
    rw [this]; rfl
theorem list_one (s : ByteArray) (h : s.size = 1) : s.data.toList = [s[0]] := by
  have hl : s.data.toList.length = 1 := by simpa using h
  obtain ⟨c, hc⟩ := List.length_eq_one_iff.1 hl
  have : s[0] = s.data.toList[0]'(by omega) := rfl
  rw [this]
  simp [hc]
set_option maxHeartbeats 2000000 in
theorem letter_any (s : ByteArray) (w : World) (hs : s.size ≤ maxLen) : Calls Tryd.prog 44 #[.string s] w fun e w' => e = .returned (.bool (letterB s.data.toList)) ∧ w = w' := by
  unfold maxLen at hs
  have hl : s.data.toList.length = s.size := by simp
  have he := isEmpty_size s
  rcases Nat.lt_or_ge 0 s.size with h0 | h0
  · rw [decide_eq_false (by omega)] at he
    rcases Nat.lt_or_ge 1 s.size with h1 | h1
    · have HF : Hid (letterB s.data.toList = false) := by
        show _ = _
        rw [← Bool.not_eq_true, letterB_iff]
        rintro (e | ⟨c, e, _⟩)
        · rw [e] at hl; simp at hl; omega
        · rw [e] at hl; simp at hl; omega
      have hs1 : ((s.size : Int) == 1) = false := by simp; omega
      clear hl
      go_enter Tryd.func44, Tryd.ntmps44
      go_wp2
      go_ret
      exact ⟨ret_bool HF.out.symm, rfl⟩
    · have h2 : s.size = 1 := by omega
      have hd := list_one s h2
      have HF : Hid (letterB s.data.toList = (decide ((97 : Int) ≤ (s[0].toNat : Int)) && decide ((s[0].toNat : Int) ≤ (122 : Int)))) := by
        show _ = _
        rw [hd, Bool.eq_iff_iff, letterB_iff]
        simp only [Bool.and_eq_true, decide_eq_true_eq]
        constructor
        · rintro (e | ⟨c, e, c1, c2⟩)
          · cases e
          · injection e with e; subst e; exact ⟨by omega, by omega⟩
        · rintro ⟨c1, c2⟩
          exact .inr ⟨_, rfl, by omega, by omega⟩
      have hs1 : ((s.size : Int) == 1) = true := by simp; omega
      clear hl hd h2
      by_cases c1 : (97 : Int) ≤ (s[0].toNat : Int) <;> by_cases c2 : (s[0].toNat : Int) ≤ (122 : Int)
      all_goals
        first
        | (exfalso; omega)
        | (go_enter Tryd.func44, Tryd.ntmps44
           go_wp2
           go_ret
           exact ⟨ret_bool (by rw [HF.out]; simp [c1, c2]), rfl⟩)
  · rw [decide_eq_true (by omega)] at he
    have HF : Hid (letterB s.data.toList = true) := by
      have : s.data.toList = [] := List.length_eq_zero_iff.1 (by omega)
      show _ = _
      rw [this]; rfl
    clear hl
    go_enter Tryd.func44, Tryd.ntmps44
    go_wp2
    go_ret
    exact ⟨ret_bool HF.out.symm, rfl⟩
end Go.Proofs.YtabphhclnboknaaDoor
