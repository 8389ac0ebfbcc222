/- Walk of the law's helper digit. -/
import Derived.Test.YtdgbnplieaaokaaDoorV8
import Derived.Test.YtdgbnplieaaokaaDoorM1
set_option linter.unusedVariables false
set_option linter.unusedSimpArgs false
namespace Go.Proofs.YtdgbnplieaaokaaDoor
open Go.RowKit

def DgI (n p : Nat) (w : World) (a i : Value) (wr : World) : Prop := ∃ k : Nat, k ≤ p ∧ a = .int .i64 ((n / 10 ^ k : Nat) : Int) ∧ i = .int .i64 (k : Int) ∧ w = wr
set_option maxHeartbeats 2000000 in
theorem digit_any (n p : Nat) (hn : n ≤ 1000000) (hp : p ≤ 100) (w : World) :
    Calls Tryd.prog 16 #[.int .i64 (n : Int), .int .i64 (p : Int)] w fun e w' => e = .returned (.int .i64 (digN n p : Int)) ∧ w = w' := by
  go_enter Tryd.func16, Tryd.ntmps16
  go_wp2_with fail
  go_loopw [0, 5] (fun a i wr => DgI n p w a i wr) (fun _ i _ => p - (intOf i).toNat)
  case atStart => exact ⟨0, by omega, by simp, rfl, rfl⟩
  case round =>
    obtain ⟨k, hk, rfl, rfl, rfl⟩ := hrel
    have hle : n / 10 ^ k ≤ 1000000 := Nat.le_trans (Nat.div_le_self _ _) hn
    have hs : n / 10 ^ (k + 1) = n / 10 ^ k / 10 := by rw [Nat.pow_succ, Nat.div_div_eq_div_mul]
    have HS := hide hs
    clear hs
    by_cases hlt : k < p
    · have e1 : decide ((k : Int) < (p : Int)) = true := by simp; omega
      have e2 : ((n / 10 ^ k : Nat) : Int).tdiv 10 = ((n / 10 ^ (k + 1) : Nat) : Int) := by rw [HS.out]; rfl
      have hb : n / 10 ^ (k + 1) ≤ 1000000 := Nat.le_trans (Nat.div_le_self _ _) hn
      obtain ⟨C, hC⟩ : ∃ C, n / 10 ^ (k + 1) = C := ⟨_, rfl⟩
      have HC := hide hC
      rw [hC] at e2 hb
      clear hC HS
      have e3 : wrap64 ((C : Nat) : Int) = ((C : Nat) : Int) := by unfold wrap64; omega
      generalize ((n / 10 ^ k : Nat) : Int) = A at *
      go_wp2_with fail
      refine ⟨⟨k + 1, by omega, by rw [HC.out], by go_num, rfl⟩, ?_⟩
      simp [intOf]; omega
    · obtain rfl : k = p := by omega
      have e1 : decide ((k : Int) < (k : Int)) = false := by simp
      have e2 : ((n / 10 ^ k : Nat) : Int).tmod 10 = ((digN n k : Nat) : Int) := by unfold digN; rfl
      have hb : digN n k ≤ 1000000 := by unfold digN; omega
      have e3 : wrap64 ((digN n k : Nat) : Int) = ((digN n k : Nat) : Int) := by unfold wrap64; omega
      generalize ((n / 10 ^ k : Nat) : Int) = A at *
      go_wp2_with fail
      go_ret
      exact ⟨rfl, rfl⟩
end Go.Proofs.YtdgbnplieaaokaaDoor
