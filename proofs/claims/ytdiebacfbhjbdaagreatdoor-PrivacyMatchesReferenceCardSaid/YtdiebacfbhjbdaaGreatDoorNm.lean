/- Numbers in digits. No program in sight. -/
import Derived.Test.YtdiebacfbhjbdaaGreatDoorBs
import Derived.Lib.AtoiAll
set_option linter.unusedVariables false
set_option linter.unusedSimpArgs false
namespace Go.Proofs.YtdiebacfbhjbdaaGreatDoor
open Go

def isDi (c : UInt8) : Bool := decide (48 ≤ c.toNat) && decide (c.toNat ≤ 57)
theorem isDi_iff (c : UInt8) : isDi c = true ↔ 48 ≤ c.toNat ∧ c.toNat ≤ 57 := by simp [isDi]
def numD (l : List UInt8) : Nat := l.foldl (fun a c => a * 10 + (c.toNat - 48)) 0
theorem atoiD_go : ∀ (l : List UInt8) (acc : Nat), (∀ c ∈ l, isDi c = true) → (acc + 1) * 10 ^ l.length ≤ 10 ^ 18 → Lib.parseUint10 acc l = .ok (l.foldl (fun a c => a * 10 + (c.toNat - 48)) acc)
  | [], acc, _, _ => rfl
  | c :: r, acc, hd, hv => by
    have hc := (isDi_iff c).1 (hd c (by simp))
    have h1 : 1 ≤ 10 ^ r.length := Nat.pow_pos (by decide)
    rw [List.length_cons, Nat.pow_succ] at hv
    have h2 : (acc * 10 + (c.toNat - 48) + 1) * 10 ^ r.length ≤ 10 ^ 18 := by
      refine Nat.le_trans (Nat.mul_le_mul_right _ (show acc * 10 + (c.toNat - 48) + 1 ≤ (acc + 1) * 10 by omega)) ?_
      rw [Nat.mul_assoc, Nat.mul_comm 10]
      exact hv
    have h3 : acc * 10 + (c.toNat - 48) + 1 ≤ 10 ^ 18 := Nat.le_trans (Nat.le_mul_of_pos_right _ h1) h2
    rw [Lib.parseUint10, if_pos hc, if_neg (by omega), if_neg (by omega), atoiD_go r _ (fun d h => hd d (by simp [h])) h2]
    rfl
theorem numD_go_lt : ∀ (l : List UInt8) (acc : Nat), (∀ c ∈ l, isDi c = true) → l.foldl (fun a c => a * 10 + (c.toNat - 48)) acc < (acc + 1) * 10 ^ l.length := by
  intro l
  induction l with
  | nil => intro acc _; simp
  | cons c r ih =>
    intro acc h
    have hc := (isDi_iff c).1 (h c (by simp))
    have h1 := ih (acc * 10 + (c.toNat - 48)) (fun d hd => h d (by simp [hd]))
    rw [List.foldl_cons, List.length_cons, Nat.pow_succ, Nat.mul_comm (10 ^ r.length), ← Nat.mul_assoc]
    exact Nat.lt_of_lt_of_le h1 (Nat.mul_le_mul_right _ (by omega))
theorem numD_lt {l : List UInt8} (hd : ∀ c ∈ l, isDi c = true) : numD l < 10 ^ l.length := by
  have := numD_go_lt l 0 hd
  unfold numD
  omega
theorem atoi_numD {l : List UInt8} (hd : ∀ c ∈ l, isDi c = true) (hn : l ≠ []) (hl : l.length ≤ 17) : Lib.atoiAll l = .ok (numD l : Int) := by
  have hg := atoiD_go l 0 hd (by
    have : 10 ^ l.length ≤ 10 ^ 17 := Nat.pow_le_pow_right (by decide) hl
    omega)
  have hb : numD l < 10 ^ 18 := by
    have h1 := numD_lt hd
    have h2 : 10 ^ l.length ≤ 10 ^ 17 := Nat.pow_le_pow_right (by decide) hl
    omega
  cases l with
  | nil => exact absurd rfl hn
  | cons c r =>
    have hc := (isDi_iff c).1 (hd c (by simp))
    unfold Lib.atoiAll Lib.parseMag
    simp only
    rw [if_neg (show ¬ (c.toNat = 43 ∨ c.toNat = 45) by omega), if_neg (by simp), hg]
    simp only
    show (if _ then _ else _) = _
    have e : List.foldl (fun a c => a * 10 + (c.toNat - 48)) 0 (c :: r) = numD (c :: r) := rfl
    rw [e]
    rw [if_neg (by omega), if_neg (by omega), if_neg (by omega)]
end Go.Proofs.YtdiebacfbhjbdaaGreatDoor
