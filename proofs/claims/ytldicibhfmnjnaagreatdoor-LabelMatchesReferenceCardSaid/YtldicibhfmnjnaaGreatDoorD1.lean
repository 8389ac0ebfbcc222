/- Walks of package label: digits, Pack of a label that is valid. -/
import Derived.Test.YtldicibhfmnjnaaGreatDoorCC
import Derived.Test.YtldicibhfmnjnaaGreatDoorX4
import Derived.Test.YtldicibhfmnjnaaGreatDoorBu
set_option linter.unusedVariables false
set_option linter.unusedSimpArgs false
namespace Go.Proofs.YtldicibhfmnjnaaGreatDoor
open Go.RowKit

def digP (n : Int) (m : Nat) : List UInt8 := List.replicate (m - (Lib.itoa n).length) 48 ++ Lib.itoa n
theorem itoa_len7 {n : Int} (h0 : 0 ≤ n) (h1 : n < 10000000) : (Lib.itoa n).length ≤ 7 := by
  obtain ⟨k, rfl⟩ : ∃ k : Nat, n = k := ⟨n.toNat, by omega⟩
  have : ∀ (j u : Nat), u < 10 ^ (j + 1) → (Lib.decDigits u).length ≤ j + 1 := by
    intro j
    induction j with
    | zero => intro u hu; rw [Lib.decDigits]; split <;> simp_all <;> omega
    | succ j ih =>
      intro u hu
      rw [Lib.decDigits]
      split
      · simp
      · rw [List.length_append]
        have := ih (u / 10) (by rw [Nat.pow_succ] at hu; omega)
        simp; omega
  unfold Lib.itoa
  rw [if_neg (by omega)]
  exact this 6 _ (by omega)
set_option maxHeartbeats 2000000 in
theorem digits_any (n : Int) (h0 : 0 ≤ n) (h1 : n ≤ 1000000) (m : Nat) (hm : m ≤ 10) (w : World) (hg : Glob w) : Calls Tryz.prog 25 #[.int .i64 n, .int .i64 (m : Int)] w fun e w' => e = .returned (.string (bs (digP n m))) ∧ Below w.heap.size w w' := by
  have HF : Hid (digP n m = List.replicate (m - (Lib.itoa n).length) 48 ++ Lib.itoa n) := rfl
  have hl := itoa_len7 h0 (by omega)
  have HG := hide hg
  clear hg
  go_enter Tryz.func25, Tryz.ntmps25
  go_wp2_with fail
  refine (Itoa_any n (by omega) (by omega) _ HG.out).mono ?_
  rintro e w1 ⟨rfl, hb⟩
  have HB1 := hide hb
  have hz : (bs (Lib.itoa n)).size = (Lib.itoa n).length := bs_size _
  clear hb HG
  obtain ⟨A, HA⟩ : ∃ A, Hid (Lib.itoa n = A) := ⟨_, rfl⟩
  rw [HA.out] at HF hl hz ⊢
  have hmx : max (0 : Int) ((m : Int) - (A.length : Int)) = ((m - A.length : Nat) : Int) := by omega
  go_wp2_with fail
  refine (Tryz.strings_Repeat ⟨#[48]⟩ (m - A.length) _ (by omega) (by show 1 * (m - A.length) ≤ _; omega)).mono ?_
  rw [show Lib.repeatL (ByteArray.mk #[48]).data.toList (m - A.length) = List.replicate (m - A.length) 48 from repeat_zeros _]
  rintro e w3 ⟨rfl, hb⟩
  have HB3 := hide (below_to HB1.out (Nat.le_refl _) hb)
  clear hb
  have hr : (ByteArray.mk (List.replicate (m - A.length) (48 : UInt8)).toArray).size = m - A.length := by rw [show ByteArray.mk (List.replicate (m - A.length) (48 : UInt8)).toArray = bs (List.replicate (m - A.length) 48) from rfl, bs_size]; simp
  go_wp2_with fail
  go_ret
  exact ⟨ret_str' (by rw [HF.out, ← bs_app]; rfl), HB3.out⟩
end Go.Proofs.YtldicibhfmnjnaaGreatDoor
