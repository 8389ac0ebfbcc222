/- The plain side of layer 1: digests of texts. No program in sight. -/
import Derived.Lib.ItoaNum
set_option linter.unusedVariables false
set_option linter.unusedSimpArgs false
namespace Go.Proofs.YtfhanbiifjiklaaGreatDoor
open Go

/-- one mixing -/
def mixN (x : Nat) : Nat :=
  let a := (x ^^^ x / 2147483648) * 11400714819323198485 % 18446744073709551616
  let b := (a ^^^ a / 134217728) * 15074714826142052245 % 18446744073709551616
  b ^^^ b / 8589934592
theorem xor_lt64 {a b : Nat} (ha : a < 18446744073709551616) (hb : b < 18446744073709551616) : a ^^^ b < 18446744073709551616 := by
  have : a ^^^ b < 2 ^ 64 := Nat.xor_lt_two_pow (by omega) (by omega)
  omega
theorem mixN_lt (x : Nat) : mixN x < 18446744073709551616 := by
  unfold mixN
  simp only
  exact xor_lt64 (Nat.mod_lt _ (by decide)) (Nat.lt_of_le_of_lt (Nat.div_le_self _ _) (Nat.mod_lt _ (by decide)))
/-- a block's number: its bytes, the first one greatest -/
def packN (l : List UInt8) : Nat := l.foldl (fun n c => n * 256 + c.toNat) 0
/-- eight bytes, filled up with zeros -/
def pad8 (l : List UInt8) : List UInt8 := l.take 8 ++ List.replicate (8 - l.length) 0
theorem pad8_len (l : List UInt8) : (pad8 l).length = 8 := by unfold pad8; simp; omega
def stepN (s : Nat) (l : List UInt8) : Nat := mixN (s ^^^ packN l)
def sumGo : Nat → Nat → List UInt8 → Nat
  | 0, s, _ => s
  | f + 1, s, l => sumGo f (stepN s (pad8 l)) (l.drop 8)
def sumN (l : List UInt8) : Nat := sumGo (l.length / 8 + 1) (7640891576956012809 ^^^ l.length) l
/-- the state after k blocks -/
def stN (l : List UInt8) : Nat → Nat
  | 0 => 7640891576956012809 ^^^ l.length
  | k + 1 => stepN (stN l k) (pad8 (l.drop (8 * k)))
theorem sumGo_st (l : List UInt8) : ∀ (f k : Nat), sumGo f (stN l k) (l.drop (8 * k)) = stN l (k + f)
  | 0, k => rfl
  | f + 1, k => by
    have := sumGo_st l f (k + 1)
    rw [sumGo, List.drop_drop, show 8 * k + 8 = 8 * (k + 1) by omega]
    rw [show stepN (stN l k) (pad8 (l.drop (8 * k))) = stN l (k + 1) from rfl, this]
    congr 1; omega
theorem sumN_st (l : List UInt8) : sumN l = stN l (l.length / 8 + 1) := by
  have := sumGo_st l (l.length / 8 + 1) 0
  simpa [sumN, stN] using this
theorem foldl_pack : ∀ (l : List UInt8) (n : Nat), l.foldl (fun n c => n * 256 + c.toNat) n < (n + 1) * 256 ^ l.length
  | [], n => by simp
  | c :: r, n => by
    have h := foldl_pack r (n * 256 + c.toNat)
    have hc := c.toNat_lt
    rw [List.foldl_cons, List.length_cons, Nat.pow_succ, Nat.mul_comm (256 ^ r.length), ← Nat.mul_assoc]
    refine Nat.lt_of_lt_of_le h (Nat.mul_le_mul_right _ ?_)
    omega
theorem packN_snoc (l : List UInt8) (c : UInt8) : packN (l ++ [c]) = packN l * 256 + c.toNat := by simp [packN]
theorem packN_lt (l : List UInt8) : packN l < 256 ^ l.length := by
  have := foldl_pack l 0
  simpa [packN] using this
theorem packN_lt64 {l : List UInt8} (h : l.length ≤ 8) : packN l < 18446744073709551616 := by
  have h1 := packN_lt l
  have h2 : 256 ^ l.length ≤ 256 ^ 8 := Nat.pow_le_pow_right (by decide) h
  omega
theorem stepN_lt (s : Nat) (l : List UInt8) : stepN s l < 18446744073709551616 := mixN_lt _
theorem stN_lt {l : List UInt8} (h : l.length < 18446744073709551616) (k : Nat) : stN l k < 18446744073709551616 := by
  cases k with
  | zero => exact xor_lt64 (by decide) h
  | succ k => exact stepN_lt _ _

/-! hexadecimal digits -/
def hexC (d : Nat) : UInt8 := if d < 10 then UInt8.ofNat (48 + d) else UInt8.ofNat (87 + d)
/-- the last k digits -/
def hexN : Nat → Nat → List UInt8
  | 0, _ => []
  | k + 1, n => hexN k (n / 16) ++ [hexC (n % 16)]
theorem hexN_len : ∀ (k n : Nat), (hexN k n).length = k
  | 0, _ => rfl
  | k + 1, n => by rw [hexN, List.length_append, hexN_len k]; rfl
def sumD (l : List UInt8) : List UInt8 := hexN 16 (sumN l)
theorem sumD_len (l : List UInt8) : (sumD l).length = 16 := hexN_len _ _
def isHex (c : UInt8) : Bool := (decide (48 ≤ c.toNat) && decide (c.toNat ≤ 57)) || (decide (97 ≤ c.toNat) && decide (c.toNat ≤ 102))
theorem hexC_hex : ∀ d : Nat, d < 16 → isHex (hexC d) = true := by decide
theorem hexN_hex : ∀ (k n : Nat), ∀ c ∈ hexN k n, isHex c = true
  | 0, _, c, h => by simp [hexN] at h
  | k + 1, n, c, h => by
    rw [hexN, List.mem_append] at h
    rcases h with h | h
    · exact hexN_hex k _ c h
    · simp only [List.mem_cons, List.not_mem_nil, or_false] at h
      subst h
      exact hexC_hex _ (Nat.mod_lt _ (by decide))
/-- has the form of a digest -/
def isD (l : List UInt8) : Bool := decide (l.length = 16) && l.all isHex
theorem isD_iff (l : List UInt8) : isD l = true ↔ l.length = 16 ∧ ∀ c ∈ l, isHex c = true := by simp [isD]
theorem sumD_isD (l : List UInt8) : isD (sumD l) = true := (isD_iff _).2 ⟨sumD_len l, hexN_hex _ _⟩
/-- the joined text of a list -/
def joinD (ls : List (List UInt8)) : List UInt8 := ls.flatMap fun s => Lib.itoa s.length ++ [58] ++ s
def listD (ls : List (List UInt8)) : List UInt8 := sumD (joinD ls)
theorem listD_isD (ls : List (List UInt8)) : isD (listD ls) = true := sumD_isD _
theorem listD_len (ls : List (List UInt8)) : (listD ls).length = 16 := sumD_len _
theorem joinD_snoc (ls : List (List UInt8)) (s : List UInt8) : joinD (ls ++ [s]) = joinD ls ++ (Lib.itoa s.length ++ [58] ++ s) := by simp [joinD]
theorem hexN_zero (k : Nat) : hexN k 0 = List.replicate k 48 := by
  induction k with
  | zero => rfl
  | succ k ih => rw [hexN, Nat.zero_div, ih, List.replicate_succ']; rfl
theorem hexN_add (j : Nat) : ∀ (k n : Nat), n < 16 ^ k → hexN (j + k) n = List.replicate j 48 ++ hexN k n
  | 0, n, h => by
    have : n = 0 := by simpa using h
    subst this
    simp [hexN, hexN_zero]
  | k + 1, n, h => by
    rw [← Nat.add_assoc, hexN, hexN, hexN_add j k (n / 16) (by rw [Nat.pow_succ] at h; omega), List.append_assoc]
/-- the digits without zeros ahead: how many -/
def hexLf : Nat → Nat → Nat
  | 0, _ => 1
  | f + 1, n => if n < 16 then 1 else hexLf f (n / 16) + 1
def hexL (n : Nat) : Nat := hexLf 15 n
theorem hexLf_spec : ∀ (f n : Nat), n < 16 ^ (f + 1) → 1 ≤ hexLf f n ∧ hexLf f n ≤ f + 1 ∧ n < 16 ^ hexLf f n ∧ (1 < hexLf f n → 16 ^ (hexLf f n - 1) ≤ n)
  | 0, n, h => by simp [hexLf] at *; omega
  | f + 1, n, h => by
    rw [hexLf]
    split
    · rename_i h1
      exact ⟨by omega, by omega, by simpa using h1, by omega⟩
    · rename_i h1
      obtain ⟨a, b, c, d⟩ := hexLf_spec f (n / 16) (by rw [Nat.pow_succ] at h; omega)
      refine ⟨by omega, by omega, by rw [Nat.pow_succ]; omega, fun _ => ?_⟩
      rw [Nat.add_sub_cancel]
      by_cases h2 : 1 < hexLf f (n / 16)
      · have := d h2
        have e : hexLf f (n / 16) = hexLf f (n / 16) - 1 + 1 := by omega
        rw [e, Nat.pow_succ]
        omega
      · have e : hexLf f (n / 16) = 1 := by omega
        rw [e]; omega
theorem hexL_spec {n : Nat} (h : n < 18446744073709551616) : 1 ≤ hexL n ∧ hexL n ≤ 16 ∧ n < 16 ^ hexL n ∧ (1 < hexL n → 16 ^ (hexL n - 1) ≤ n) := hexLf_spec 15 n (by simpa using h)
theorem hex_fill {n : Nat} (h : n < 18446744073709551616) : List.replicate (16 - hexL n) 48 ++ hexN (hexL n) n = hexN 16 n := by
  obtain ⟨_, h1, h2, _⟩ := hexL_spec h
  rw [← hexN_add (16 - hexL n) (hexL n) n h2]
  congr 1; omega
/-- the digits of the last k places, one more ahead -/
theorem hexN_cons : ∀ (k n : Nat), hexN (k + 1) n = hexC (n / 16 ^ k % 16) :: hexN k n
  | 0, n => by simp [hexN]
  | k + 1, n => by
    rw [hexN, hexN_cons k (n / 16), hexN, Nat.div_div_eq_div_mul, Nat.pow_succ, Nat.mul_comm 16]
    rfl
end Go.Proofs.YtfhanbiifjiklaaGreatDoor
