/- Walks of package veil: the small functions. -/
import Derived.Test.YtdgbnplieaaokaaGreatDoorV1
import Derived.Test.YtdgbnplieaaokaaGreatDoorDig5
import Derived.Outline
set_option linter.unusedVariables false
set_option linter.unusedSimpArgs false
namespace Go.Proofs.YtdgbnplieaaokaaGreatDoor
open Go.RowKit

def pval (x y : Int) : Value := .agg #[.int .i64 x, .int .i64 y]
set_option maxHeartbeats 2000000 in
theorem On_any (x y : Int) (w : World) : Calls Tryz.prog 14 #[pval x y] w fun e w' => e = .returned (.bool (onP x y)) ∧ Below w.heap.size w w' := by
  have HB := hide (below_one w (.cells #[.int .i64 x, .int .i64 y] 23))
  have HO : Hid (onP x y = (decide (0 ≤ x) && decide (x ≤ 32767) && decide (0 ≤ y) && decide (y ≤ 32767))) := rfl
  go_enter Tryz.func14, Tryz.ntmps14
  unfold pval
  by_cases h1 : 0 ≤ x ∧ 0 ≤ y
  · have d1 : decide (0 ≤ min x y) = true := by simp; omega
    by_cases h2 : x ≤ 32767 ∧ y ≤ 32767
    · have d2 : decide (max x y ≤ 32767) = true := by simp; omega
      go_wp2_with fail
      go_ret
      exact ⟨ret_bool (by rw [HO.out]; simp [h1, h2]), HB.out⟩
    · have d2 : decide (max x y ≤ 32767) = false := by simp; omega
      go_wp2_with fail
      go_ret
      exact ⟨ret_bool (by rw [HO.out]; simp; omega), HB.out⟩
  · have d1 : decide (0 ≤ min x y) = false := by simp; omega
    go_wp2_with fail
    go_ret
    exact ⟨ret_bool (by rw [HO.out]; simp; omega), HB.out⟩
theorem dec_len20 : ∀ (k u : Nat), u < 10 ^ (k + 1) → (Lib.decDigits u).length ≤ k + 1
  | 0, u, h => by rw [dec_lt (by simpa using h)]; simp
  | k + 1, u, h => by
    by_cases h1 : u < 10
    · rw [dec_lt h1]; simp
    · rw [dec_ge h1, List.length_append]
      have := dec_len20 k (u / 10) (by rw [Nat.pow_succ] at h; omega)
      simp; omega
theorem itoa_len20 {n : Nat} (h : n < 100000000000000000000) : (Lib.itoa (n : Int)).length ≤ 20 := by
  unfold Lib.itoa
  rw [if_neg (by omega)]
  exact dec_len20 19 n h
theorem join_len : ∀ (ls : List (List UInt8)), (∀ l ∈ ls, l.length < 100000000000000000000) → (joinD ls).length ≤ (ls.map List.length).sum + 21 * ls.length
  | [], _ => by simp [joinD]
  | l :: ls, h => by
    have h1 := join_len ls (fun x hx => h x (by simp [hx]))
    have h2 := itoa_len20 (n := l.length) (h l (by simp))
    have e : joinD (l :: ls) = (Lib.itoa l.length ++ [58] ++ l) ++ joinD ls := by simp [joinD]
    rw [e]
    simp only [List.length_append, List.map_cons, List.sum_cons, List.length_cons, List.length_nil] at *
    omega
set_option maxHeartbeats 2000000 in
theorem five_any (n : Int) (h0 : 0 ≤ n) (h1 : n ≤ 32767) (w : World) (hg : Glob w) : Calls Tryz.prog 17 #[.int .i64 n] w fun e w' => e = .returned (.string (bs (fiveP n))) ∧ Below w.heap.size w w' := by
  have HF : Hid (fiveP n = List.replicate (5 - (Lib.itoa n).length) 48 ++ Lib.itoa n) := rfl
  have hl := (fiveP_dec h0 (show n < 100000 by omega)).2
  have HG := hide hg
  clear hg
  go_enter Tryz.func17, Tryz.ntmps17
  go_wp2_with fail
  refine (Itoa_any n (by omega) (by omega) _ HG.out).mono ?_
  rintro e w1 ⟨rfl, hb⟩
  have HB1 := hide hb
  have hz : (bs (Lib.itoa n)).size = (Lib.itoa n).length := bs_size _
  clear hb HG
  obtain ⟨A, HA⟩ : ∃ A, Hid (Lib.itoa n = A) := ⟨_, rfl⟩
  rw [HA.out] at HF hl hz ⊢
  go_wp2_with fail
  rw [show (5 : Int) - (A.length : Int) = ((5 - A.length : Nat) : Int) by omega]
  refine (Tryz.strings_Repeat ⟨#[48]⟩ (5 - A.length) _ (by omega) (by show 1 * (5 - A.length) ≤ _; omega)).mono ?_
  rw [show Lib.repeatL (ByteArray.mk #[48]).data.toList (5 - A.length) = List.replicate (5 - A.length) 48 from repeat_zeros _]
  rintro e w3 ⟨rfl, hb⟩
  have HB3 := hide (below_to HB1.out (Nat.le_refl _) hb)
  clear hb
  have hr : (ByteArray.mk (List.replicate (5 - A.length) (48 : UInt8)).toArray).size = 5 - A.length := by rw [show ByteArray.mk (List.replicate (5 - A.length) (48 : UInt8)).toArray = bs (List.replicate (5 - A.length) 48) from rfl, bs_size]; simp
  go_wp2_with fail
  go_ret
  exact ⟨ret_str' (by rw [HF.out, ← bs_app]; rfl), HB3.out⟩
set_option maxHeartbeats 2000000 in
theorem mark_any (key salt hid : List UInt8) (hk : key.length + salt.length + hid.length ≤ 140737488355000) (w : World) (hg : Glob w) :
    Calls Tryz.prog 18 #[.string (bs key), .string (bs salt), .string (bs hid)] w fun e w' => e = .returned (.string (bs (markP key salt hid))) ∧ Below w.heap.size w w' := by
  have HG := hide (hg.alloc (.cells #[.string ⟨#[109, 97, 114, 107]⟩, .string (bs key), .string (bs salt), .string (bs hid)] 9))
  have HB := hide (below_one w (.cells #[.string ⟨#[109, 97, 114, 107]⟩, .string (bs key), .string (bs salt), .string (bs hid)] 9))
  have HS : Hid (Blk (w.alloc (.cells #[.string ⟨#[109, 97, 114, 107]⟩, .string (bs key), .string (bs salt), .string (bs hid)] 9)) w.heap.size 9 (strC [markT, key, salt, hid])) := Blk.new w _ _
  have HJ : Hid ((joinD [markT, key, salt, hid]).length ≤ 140737488355328) := by
    have := join_len [markT, key, salt, hid] (fun l hl => by
      simp only [List.mem_cons, List.not_mem_nil, or_false] at hl
      rcases hl with rfl | rfl | rfl | rfl
      · decide
      all_goals omega)
    have e : markT.length = 4 := rfl
    simp only [List.map_cons, List.map_nil, List.sum_cons, List.sum_nil, List.length_cons, List.length_nil, e] at this
    show _ ≤ _
    omega
  clear hg hk
  go_enter Tryz.func18, Tryz.ntmps18
  go_wp2_with fail
  refine (List_any [markT, key, salt, hid] _ _ _ HS.out (by simp) HJ.out HG.out).mono ?_
  rintro e w1 ⟨rfl, hb⟩
  have HB1 := hide (below_to HB.out (Nat.le_refl _) hb)
  clear hb
  go_wp2_with fail
  go_ret
  exact ⟨rfl, HB1.out⟩
end Go.Proofs.YtdgbnplieaaokaaGreatDoor
