/- Plain law of VeilMasks: the hidden digits of two points under one mask. -/
import Derived.Test.YtdgbnplieaaokaaDoorV1
set_option linter.unusedVariables false
set_option linter.unusedSimpArgs false
namespace Go.Proofs.YtdgbnplieaaokaaDoor
open Go

theorem applyP_get {f : Nat → Nat → Nat} : ∀ (ms cs : List UInt8) (k : Nat) (m c : UInt8), ms[k]? = some m → cs[k]? = some c → (applyP f ms cs)[k]? = some (dgC (f (c.toNat - 48) (hexV m)))
  | a :: ms, b :: cs, 0, m, c, hm, hc => by
    simp only [List.getElem?_cons_zero, Option.some.injEq] at hm hc
    subst hm hc; rfl
  | a :: ms, b :: cs, k + 1, m, c, hm, hc => by
    simp only [List.getElem?_cons_succ] at hm hc
    show (applyP f ms cs)[k]? = _
    exact applyP_get ms cs k m c hm hc
  | [], _, k, m, c, hm, _ => by simp at hm
  | _ :: _, [], k, m, c, _, hc => by simp at hc
/-- the digit of a number at a place -/
def digN (n p : Nat) : Nat := n / 10 ^ p % 10
def digK (k : Nat) (x y : Int) : Nat := if k < 5 then digN x.toNat (4 - k % 5) else digN y.toNat (4 - k % 5)
theorem ten_at {x y : Int} (h : onP x y = true) (k : Nat) (hk : k < 10) : (fiveP x ++ fiveP y)[k]? = some (dgC (digK k x y)) := by
  obtain ⟨a, b, _, _⟩ := ten h
  rw [a, b]
  rcases (by omega : k = 0 ∨ k = 1 ∨ k = 2 ∨ k = 3 ∨ k = 4 ∨ k = 5 ∨ k = 6 ∨ k = 7 ∨ k = 8 ∨ k = 9) with rfl | rfl | rfl | rfl | rfl | rfl | rfl | rfl | rfl | rfl <;> simp [dec5, digK, digN]
theorem digK_lt (k : Nat) (x y : Int) : digK k x y < 10 := by unfold digK digN; split <;> exact Nat.mod_lt _ (by decide)
theorem lock_at {key salt : List UInt8} {x y : Int} (h : canL salt x y = true) (k : Nat) (hk : k < 10) : ∃ m, (maskP key salt)[k]? = some m ∧ (lockP key salt x y)[16 + k]? = some (dgC (fwdD (digK k x y) (hexV m))) := by
  have hc := h
  unfold canL at hc
  simp only [Bool.and_eq_true] at hc
  have h16 := ((isD_iff _).1 hc.1).1
  have h10 := (hidP_spec key salt hc.2).1
  have hm : k < (maskP key salt).length := by rw [maskP_len]; omega
  refine ⟨_, List.getElem?_eq_getElem hm, ?_⟩
  have h1 := applyP_get (f := fwdD) (maskP key salt) (fiveP x ++ fiveP y) k _ _ (List.getElem?_eq_getElem hm) (ten_at hc.2 k hk)
  rw [dgC_nat (digK_lt k x y), Nat.add_sub_cancel_left] at h1
  unfold lockP
  rw [if_pos h, List.append_assoc, List.getElem?_append_right (by omega), h16, Nat.add_sub_cancel_left, List.getElem?_append_left (by rw [h10]; exact hk)]
  exact h1
/-- the law: both bytes, and the difference of the differences -/
theorem masks_at {key salt : List UInt8} {x y u v : Int} (h : canL salt x y = true) (h2 : canL salt u v = true) (k : Nat) (hk : k < 10) :
    ∃ c d : UInt8, (lockP key salt x y)[16 + k]? = some c ∧ (lockP key salt u v)[16 + k]? = some d ∧ ((c.toNat : Int) - (d.toNat : Int) - (digK k x y : Int) + (digK k u v : Int)).tmod 10 = 0 := by
  obtain ⟨m, e1, e2⟩ := lock_at (key := key) h k hk
  obtain ⟨m', e3, e4⟩ := lock_at (key := key) h2 k hk
  rw [e1] at e3
  cases e3
  refine ⟨_, _, e2, e4, ?_⟩
  rw [dgC_nat (fwd_lt _ _), dgC_nat (fwd_lt _ _)]
  have l1 := digK_lt k x y
  have l2 := digK_lt k u v
  generalize digK k x y = a at *
  generalize digK k u v = b at *
  unfold fwdD
  apply Int.tmod_eq_zero_of_dvd
  omega
end Go.Proofs.YtdgbnplieaaokaaDoor
