/- The plain side of layer 46: labels. Symbols, sums modulo 37, words that differ at two places at most. No program in sight. -/
import Derived.Test.YtldicibhfmnjnaaGreatDoorBase
set_option linter.unusedVariables false
set_option linter.unusedSimpArgs false
namespace Go.Proofs.YtldicibhfmnjnaaGreatDoor
open Go

/-- the 37 symbols -/
def symT : List UInt8 := [48, 49, 50, 51, 52, 53, 54, 55, 56, 57, 97, 98, 99, 100, 101, 102, 103, 104, 105, 106, 107, 108, 109, 110, 111, 112, 113, 114, 115, 116, 117, 118, 119, 120, 121, 122, 45]
def symV (c : UInt8) : Int := if 48 ≤ c.toNat ∧ c.toNat ≤ 57 then (c.toNat : Int) - 48 else if 97 ≤ c.toNat ∧ c.toNat ≤ 122 then (c.toNat : Int) - 87 else if c.toNat = 45 then 36 else -1
def symC (v : Int) : UInt8 := symT.getD v.toNat 0
def isSym (c : UInt8) : Bool := decide (0 ≤ symV c)
theorem symV_range (c : UInt8) : -1 ≤ symV c ∧ symV c ≤ 36 := by unfold symV; split <;> (try split) <;> (try split) <;> omega
theorem symC_V : ∀ c : UInt8, isSym c = true → symC (symV c) = c := by
  have h : ∀ k : Nat, k < 256 → isSym (UInt8.ofNat k) = true → symC (symV (UInt8.ofNat k)) = UInt8.ofNat k := by decide +kernel
  intro c hc
  have := h c.toNat c.toNat_lt
  rw [UInt8.ofNat_toNat] at this
  exact this hc
theorem symV_C : ∀ k : Nat, k < 37 → symV (symC (k : Int)) = (k : Int) := by decide +kernel
theorem symV_C' {v : Int} (h0 : 0 ≤ v) (h1 : v < 37) : symV (symC v) = v := by
  have := symV_C v.toNat (by omega)
  rwa [show ((v.toNat : Nat) : Int) = v by omega] at this
theorem symC_sym {v : Int} (h0 : 0 ≤ v) (h1 : v < 37) : isSym (symC v) = true := by unfold isSym; rw [symV_C' h0 h1]; simpa using h0
theorem symV_inj {a b : UInt8} (ha : isSym a = true) (h : symV a = symV b) : a = b := by
  have hb : isSym b = true := by unfold isSym at *; rw [← h]; exact ha
  rw [← symC_V a ha, ← symC_V b hb, h]
theorem sym_q : isSym 63 = false := by decide
/-- a byte of a seen text -/
def okC (c : UInt8) : Bool := isSym c || c == 63
theorem okC_V {c : UInt8} (h : okC c = true) : symV c = -1 ↔ c = 63 := by
  unfold okC isSym at h
  simp only [Bool.or_eq_true, decide_eq_true_eq, beq_iff_eq] at h
  constructor
  · intro h1; rcases h with h | h
    · omega
    · exact h
  · rintro rfl; decide

/-! ### sums -/
/-- a word: values 0 to 36; the sum and the weighed sum from place k on -/
def s1 : List Int → Int
  | [] => 0
  | v :: l => v + s1 l
def s2 : Nat → List Int → Int
  | _, [] => 0
  | k, v :: l => v * ((k : Int) + 1) + s2 (k + 1) l
def pos (v : Int) : Int := max v 0
def mod37 (n : Int) : Int := n % 37
theorem mod37_range (n : Int) : 0 ≤ mod37 n ∧ mod37 n < 37 := by unfold mod37; omega
theorem s1_app : ∀ (l m : List Int), s1 (l ++ m) = s1 l + s1 m
  | [], m => by simp [s1]
  | v :: l, m => by simp only [List.cons_append, s1]; rw [s1_app l m]; omega
theorem s2_app : ∀ (l m : List Int) (k : Nat), s2 k (l ++ m) = s2 k l + s2 (k + l.length) m
  | [], m, k => by simp [s2]
  | v :: l, m, k => by
    simp only [List.cons_append, s2, List.length_cons]
    rw [s2_app l m (k + 1), show k + 1 + l.length = k + (l.length + 1) by omega]; omega
/-- a value put at a place -/
theorem s1_set : ∀ (l : List Int) (i : Nat) (v : Int) (u : Int), l[i]? = some u → s1 (l.set i v) = s1 l - u + v
  | [], i, v, u, h => by simp at h
  | x :: l, 0, v, u, h => by simp at h; subst h; simp only [List.set_cons_zero, s1]; omega
  | x :: l, i + 1, v, u, h => by simp at h; simp only [List.set_cons_succ, s1]; rw [s1_set l i v u h]; omega
theorem s2_set : ∀ (l : List Int) (k i : Nat) (v : Int) (u : Int), l[i]? = some u → s2 k (l.set i v) = s2 k l - u * ((k : Int) + i + 1) + v * ((k : Int) + i + 1)
  | [], k, i, v, u, h => by simp at h
  | x :: l, k, 0, v, u, h => by simp at h; subst h; simp only [List.set_cons_zero, s2]; simp; omega
  | x :: l, k, i + 1, v, u, h => by
    simp at h; simp only [List.set_cons_succ, s2]; rw [s2_set l (k + 1) i v u h]
    rw [show ((k + 1 : Nat) : Int) + (i : Int) + 1 = (k : Int) + ((i + 1 : Nat) : Int) + 1 by push_cast; omega]; omega
theorem prime37 : ∀ a : Nat, a < 37 → ∀ b : Nat, b < 37 → (a * b) % 37 = 0 → a = 0 ∨ b = 0 := by decide +kernel
theorem prime37' {a b : Int} (h : (a * b) % 37 = 0) : a % 37 = 0 ∨ b % 37 = 0 := by
  have h1 := prime37 (a % 37).toNat (by omega) (b % 37).toNat (by omega)
  have e : (((a % 37).toNat * (b % 37).toNat : Nat) : Int) = (a % 37) * (b % 37) := by push_cast; rw [show (((a % 37).toNat : Nat) : Int) = a % 37 by omega, show (((b % 37).toNat : Nat) : Int) = b % 37 by omega]
  have e2 : ((((a % 37).toNat * (b % 37).toNat) % 37 : Nat) : Int) = 0 := by
    rw [Int.natCast_emod, e]
    show (a % 37 * (b % 37)) % (37 : Int) = 0
    rw [← Int.mul_emod]
    exact h
  rcases h1 (by omega) with h2 | h2 <;> omega
/-- a word whose both sums can be divided by 37 -/
def isWord (l : List Int) : Prop := (∀ v ∈ l, 0 ≤ v ∧ v < 37) ∧ s1 l % 37 = 0 ∧ s2 0 l % 37 = 0
theorem mul_sub37 (a b k : Int) : a * k - b * k = (a - b) * k := by rw [Int.sub_mul]
/-- two words that agree but at two places are equal -/
theorem word_two {l : List Int} {i j : Nat} {a b u v : Int} (hl : isWord l) (hn : l.length ≤ 36) (hij : i ≠ j) (hi : l[i]? = some u) (hj : l[j]? = some v)
    (ha : 0 ≤ a ∧ a < 37) (hb : 0 ≤ b ∧ b < 37) (h1 : s1 ((l.set i a).set j b) % 37 = 0) (h2 : s2 0 ((l.set i a).set j b) % 37 = 0) : a = u ∧ b = v := by
  have hil : i < l.length := by rcases Nat.lt_or_ge i l.length with h | h; exact h; rw [List.getElem?_eq_none h] at hi; cases hi
  have hjl : j < l.length := by rcases Nat.lt_or_ge j l.length with h | h; exact h; rw [List.getElem?_eq_none h] at hj; cases hj
  have hu := hl.1 u (List.mem_of_getElem? hi)
  have hv := hl.1 v (List.mem_of_getElem? hj)
  have hj' : (l.set i a)[j]? = some v := by rw [List.getElem?_set_ne hij]; exact hj
  rw [s1_set _ j b v hj', s1_set _ i a u hi] at h1
  rw [s2_set _ 0 j b v hj', s2_set _ 0 i a u hi] at h2
  have hw1 := hl.2.1
  have hw2 := hl.2.2
  generalize s1 l = A at *
  generalize s2 0 l = B at *
  have h3 : ((a - u) * ((i : Int) + 1) + (b - v) * ((j : Int) + 1)) % 37 = 0 := by
    have : (a - u) * ((i : Int) + 1) + (b - v) * ((j : Int) + 1) = (B - u * ((0 : Nat) + (i : Int) + 1) + a * ((0 : Nat) + (i : Int) + 1) - v * ((0 : Nat) + (j : Int) + 1) + b * ((0 : Nat) + (j : Int) + 1)) - B := by
      simp only [Int.sub_mul]
      simp
      omega
    rw [this]; omega
  have h4 : ((a - u) * ((i : Int) - (j : Int))) % 37 = 0 := by
    have e : (a - u) * ((i : Int) - (j : Int)) = ((a - u) * ((i : Int) + 1) + (b - v) * ((j : Int) + 1)) - ((a - u) + (b - v)) * ((j : Int) + 1) := by
      simp only [Int.sub_mul, Int.mul_sub, Int.add_mul, Int.mul_add]
      omega
    have e2 : (((a - u) + (b - v)) * ((j : Int) + 1)) % 37 = 0 := by
      rw [Int.mul_emod, show ((a - u) + (b - v)) % 37 = 0 by omega]
      simp
    rw [e]; omega
  rcases prime37' h4 with h5 | h5
  · have : a = u := by omega
    subst this
    refine ⟨rfl, by omega⟩
  · omega
theorem word_one {l : List Int} {i : Nat} {a u : Int} (hl : isWord l) (hi : l[i]? = some u) (ha : 0 ≤ a ∧ a < 37) (h1 : s1 (l.set i a) % 37 = 0) : a = u := by
  have hu := hl.1 u (List.mem_of_getElem? hi)
  rw [s1_set _ i a u hi] at h1
  have := hl.2.1
  omega
/-! ### the solution of both equations -/
def invP (n : Int) : Int := ((((List.range 37).find? fun (i : Nat) => decide (1 ≤ i) && (mod37 (n * (i : Int)) == 1)).getD 0 : Nat) : Int)
theorem inv_spec : ∀ n : Nat, n < 37 → n ≠ 0 → mod37 ((n : Int) * invP n) = 1 ∧ 0 ≤ invP n ∧ invP n < 37 := by decide +kernel
def solB (one two : Int) (i j : Nat) : Int := mod37 (invP (mod37 ((j : Int) - i)) * mod37 (one * ((i : Int) + 1) + -two))
def solA (one two : Int) (i j : Nat) : Int := mod37 (-one + -(solB one two i j))
theorem sol_one (one two : Int) (i j : Nat) : (one + solA one two i j + solB one two i j) % 37 = 0 := by unfold solA mod37; omega
theorem sol_two (one two : Int) (i j : Nat) (hij : i < j) (hj : j < 37) : (two + solA one two i j * ((i : Int) + 1) + solB one two i j * ((j : Int) + 1)) % 37 = 0 := by
  have hA := sol_one one two i j
  have hinv := inv_spec (j - i) (by omega) (by omega)
  have hm : mod37 ((j : Int) - i) = ((j - i : Nat) : Int) := by unfold mod37; omega
  have hB : (solB one two i j * ((j : Int) - i)) % 37 = (one * ((i : Int) + 1) + -two) % 37 := by
    unfold solB
    rw [hm]
    generalize hI : invP ((j - i : Nat) : Int) = I at *
    generalize hR : one * ((i : Int) + 1) + -two = R at *
    unfold mod37 at *
    rw [show ((j - i : Nat) : Int) = (j : Int) - i by omega] at hinv
    generalize (j : Int) - i = D at *
    have e1 : (I * (R % 37)) % 37 * D % 37 = (D * I) * R % 37 := by
      rw [Int.mul_emod, Int.emod_emod_of_dvd _ (Int.dvd_refl 37), ← Int.mul_emod, Int.mul_assoc, Int.mul_comm (R % 37) D, ← Int.mul_assoc, Int.mul_emod, Int.emod_emod_of_dvd _ (Int.dvd_refl 37), ← Int.mul_emod, Int.mul_comm I D]
    rw [e1, Int.mul_emod, hinv.1]
    simp
  generalize solA one two i j = a at *
  generalize solB one two i j = b at *
  have e : two + a * ((i : Int) + 1) + b * ((j : Int) + 1) = (one + a + b) * ((i : Int) + 1) + (b * ((j : Int) - i) - (one * ((i : Int) + 1) + -two)) := by
    simp only [Int.add_mul, Int.mul_add, Int.mul_sub]
    omega
  have e2 : ((one + a + b) * ((i : Int) + 1)) % 37 = 0 := by
    rw [Int.mul_emod, hA]; simp
  rw [e]; omega
end Go.Proofs.YtldicibhfmnjnaaGreatDoor
