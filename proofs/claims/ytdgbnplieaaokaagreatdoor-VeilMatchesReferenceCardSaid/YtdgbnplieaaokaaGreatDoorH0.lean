/- The reference of layer 49, the plain side. -/
import Derived.Test.YtdgbnplieaaokaaGreatDoorV1
set_option linter.unusedVariables false
set_option linter.unusedSimpArgs false
namespace Go.Proofs.YtdgbnplieaaokaaGreatDoor
open Go

theorem five_step (n : Nat) : ∀ k, k < 5 → (dec5 n).drop (4 - k) = dgC (n / 10 ^ k % 10) :: (dec5 n).drop (5 - k)
  | 0, _ => by simp [dec5]
  | 1, _ => by simp [dec5]
  | 2, _ => by simp [dec5]
  | 3, _ => by simp [dec5]
  | 4, _ => by simp [dec5]
  | k + 5, h => by omega
/-- the mask added t times -/
def mulD (t d m : Nat) : Nat := (d + t * m) % 10
theorem mul_lt (t a b : Nat) : mulD t a b < 10 := Nat.mod_lt _ (by decide)
theorem mul_one_fwd (d m : Nat) : mulD 1 d m = fwdD d m := by unfold mulD fwdD; omega
theorem mul_nine_bwd (d m : Nat) (h : m < 16) : mulD 9 d m = bwdD d m := by unfold mulD bwdD; omega
theorem applyP_same {f g : Nat → Nat → Nat} (h : ∀ d m, m < 16 → f d m = g d m) : ∀ (ms cs : List UInt8), (∀ m ∈ ms, isHex m = true) → applyP f ms cs = applyP g ms cs
  | m :: ms, c :: cs, hm => by
    simp only [applyP]
    rw [h _ _ (hexV_lt16 (hm m (by simp))), applyP_same h ms cs (fun x hx => hm x (by simp [hx]))]
  | [], _, _ => rfl
  | _ :: _, [], _ => rfl
theorem applyP_take {f : Nat → Nat → Nat} : ∀ (ms cs : List UInt8) (k : Nat) (m c : UInt8), ms[k]? = some m → cs[k]? = some c → applyP f ms (cs.take (k + 1)) = applyP f ms (cs.take k) ++ [dgC (f (c.toNat - 48) (hexV m))]
  | [], _, _, _, _, h, _ => by simp at h
  | _ :: _, [], _, _, _, _, h => by simp at h
  | m' :: ms, c' :: cs, 0, m, c, hm, hc => by
    simp at hm hc
    subst hm; subst hc
    simp [applyP]
  | m' :: ms, c' :: cs, k + 1, m, c, hm, hc => by
    simp at hm hc
    have := applyP_take (f := f) ms cs k m c hm hc
    simp only [List.take_succ_cons, applyP, List.cons_append]
    rw [this]
theorem numP_take {l : List UInt8} {k : Nat} {c : UInt8} (h : l[k]? = some c) : numP (l.take (k + 1)) = numP (l.take k) * 10 + (c.toNat - 48) := by
  unfold numP
  rw [List.take_add_one, h]
  simp [List.foldl_append]
/-- a text is opened iff locking what it shows gives the text -/
theorem own_good (key t : List UInt8) (hv : isV t = true) : goodV key t = (canL (saltV t) (xV key t) (yV key t) && decide (lockP key (saltV t) (xV key t) (yV key t) = t)) := by
  rw [Bool.eq_iff_iff]
  constructor
  · intro h
    obtain ⟨a, b⟩ := open_lock h
    rw [a, b]
    simp
  · intro h
    simp only [Bool.and_eq_true, decide_eq_true_eq] at h
    obtain ⟨a, b⟩ := h
    have := (lock_open (key := key) a).1
    rwa [b] at this
end Go.Proofs.YtdgbnplieaaokaaGreatDoor
