/- The plain laws of layer 46 on labels as payloads. No program in sight. -/
import Derived.Test.YtldicibhfmnjnaaGreatDoorF2
set_option linter.unusedVariables false
set_option linter.unusedSimpArgs false
namespace Go.Proofs.YtldicibhfmnjnaaGreatDoor
open Go.RowKit

theorem dec_digits : ∀ (n u : Nat), u < 10 ^ (n + 1) → (∀ c ∈ Lib.decDigits u, isDi c = true) ∧ numD (Lib.decDigits u) = u ∧ (Lib.decDigits u).length ≤ n + 1 ∧ 1 ≤ (Lib.decDigits u).length := by
  intro n
  induction n with
  | zero =>
    intro u hu
    rw [Lib.decDigits, dif_pos (show u < 10 by omega)]
    have : u < 10 := by omega
    refine ⟨fun c hc => ?_, ?_, by simp, by simp⟩
    · simp at hc; subst hc; rw [isDi_iff]
      rcases (by omega : u = 0 ∨ u = 1 ∨ u = 2 ∨ u = 3 ∨ u = 4 ∨ u = 5 ∨ u = 6 ∨ u = 7 ∨ u = 8 ∨ u = 9) with rfl | rfl | rfl | rfl | rfl | rfl | rfl | rfl | rfl | rfl <;> decide
    · rcases (by omega : u = 0 ∨ u = 1 ∨ u = 2 ∨ u = 3 ∨ u = 4 ∨ u = 5 ∨ u = 6 ∨ u = 7 ∨ u = 8 ∨ u = 9) with rfl | rfl | rfl | rfl | rfl | rfl | rfl | rfl | rfl | rfl <;> decide
  | succ n ih =>
    intro u hu
    rw [Lib.decDigits]
    split
    · rename_i h10
      refine ⟨fun c hc => ?_, ?_, by simp, by simp⟩
      · simp at hc; subst hc; rw [isDi_iff]
        rcases (by omega : u = 0 ∨ u = 1 ∨ u = 2 ∨ u = 3 ∨ u = 4 ∨ u = 5 ∨ u = 6 ∨ u = 7 ∨ u = 8 ∨ u = 9) with rfl | rfl | rfl | rfl | rfl | rfl | rfl | rfl | rfl | rfl <;> decide
      · rcases (by omega : u = 0 ∨ u = 1 ∨ u = 2 ∨ u = 3 ∨ u = 4 ∨ u = 5 ∨ u = 6 ∨ u = 7 ∨ u = 8 ∨ u = 9) with rfl | rfl | rfl | rfl | rfl | rfl | rfl | rfl | rfl | rfl <;> decide
    · rename_i h10
      obtain ⟨h1, h2, h3, h4⟩ := ih (u / 10) (by rw [Nat.pow_succ] at hu; omega)
      obtain ⟨m, hm, hlt⟩ : ∃ m, u % 10 = m ∧ m < 10 := ⟨_, rfl, by omega⟩
      rw [hm]
      refine ⟨fun c hc => ?_, ?_, by simp; omega, by simp⟩
      · rcases List.mem_append.1 hc with h | h
        · exact h1 c h
        · simp at h; subst h; rw [isDi_iff]
          rcases (by omega : m = 0 ∨ m = 1 ∨ m = 2 ∨ m = 3 ∨ m = 4 ∨ m = 5 ∨ m = 6 ∨ m = 7 ∨ m = 8 ∨ m = 9) with rfl | rfl | rfl | rfl | rfl | rfl | rfl | rfl | rfl | rfl <;> decide
      · unfold numD at h2 ⊢
        rw [List.foldl_append, h2]
        have : u = u / 10 * 10 + m := by omega
        rcases (by omega : m = 0 ∨ m = 1 ∨ m = 2 ∨ m = 3 ∨ m = 4 ∨ m = 5 ∨ m = 6 ∨ m = 7 ∨ m = 8 ∨ m = 9) with rfl | rfl | rfl | rfl | rfl | rfl | rfl | rfl | rfl | rfl <;> exact this.symm
theorem numD_zeros (l : List UInt8) : ∀ k, numD (List.replicate k 48 ++ l) = numD l
  | 0 => rfl
  | k + 1 => by
    have ih := numD_zeros l k
    unfold numD at ih ⊢
    rw [List.replicate_succ, List.cons_append, List.foldl_cons]
    exact ih
theorem numV_dg {l : List UInt8} (hd : ∀ c ∈ l, isDi c = true) (hn : l ≠ []) (hl : l.length ≤ 17) : numV l = (numD l : Int) := by
  have h1 := atoi_numD hd hn hl
  rw [Lib.atoiAll_short l (by omega)] at h1
  unfold numV
  cases h : Lib.atoi l with
  | none => rw [h] at h1; cases h1
  | some v => rw [h] at h1; exact (by simpa [Lib.NumEnd.ofOption] using h1)
theorem digP_facts {n : Int} {m : Nat} (h0 : 0 ≤ n) (h1 : n < 10 ^ m) (hm : 1 ≤ m) (hm' : m ≤ 6) : (digP n m).length = m ∧ (∀ c ∈ digP n m, isDi c = true) ∧ numV (digP n m) = n := by
  obtain ⟨u, rfl⟩ : ∃ u : Nat, n = u := ⟨n.toNat, by omega⟩
  obtain ⟨k, rfl⟩ : ∃ k, m = k + 1 := ⟨m - 1, by omega⟩
  have hu : u < 10 ^ (k + 1) := by
    have : ((u : Nat) : Int) < ((10 ^ (k + 1) : Nat) : Int) := by rw [Int.natCast_pow]; exact h1
    omega
  obtain ⟨d1, d2, d3, d4⟩ := dec_digits k u hu
  have hi : Lib.itoa (u : Int) = Lib.decDigits u := by unfold Lib.itoa; rw [if_neg (by omega)]; simp
  have hlen : (digP (u : Int) (k + 1)).length = k + 1 := by unfold digP; rw [hi, List.length_append, List.length_replicate]; omega
  have hall : ∀ c ∈ digP (u : Int) (k + 1), isDi c = true := by
    unfold digP
    rw [hi]
    intro c hc
    rcases List.mem_append.1 hc with h | h
    · rw [List.eq_of_mem_replicate h]; decide
    · exact d1 c h
  refine ⟨hlen, hall, ?_⟩
  rw [numV_dg hall (fun h => by rw [h] at hlen; simp at hlen) (by omega)]
  unfold digP
  rw [hi, numD_zeros, d2]
theorem good_facts {d : List UInt8} {o s h : Int} (hg : goodL d o s h = true) : isNm d = true ∧ d.length ≤ 12 ∧ d.all sym36 = true ∧ -1 ≤ s ∧ s ≤ 100000 ∧ 0 ≤ o ∧ o < 64 ∧ 0 ≤ h ∧ h < 64 := by
  unfold goodL at hg
  simp only [Bool.and_eq_true, decide_eq_true_eq] at hg
  obtain ⟨⟨⟨⟨⟨⟨⟨⟨hnm, hl12⟩, hall⟩, hs0⟩, hs1⟩, ho0⟩, ho1⟩, hh0⟩, hh1⟩ := hg
  exact ⟨hnm, hl12, hall, hs0, hs1, ho0, ho1, hh0, hh1⟩
theorem sub_app {a b c : List UInt8} {i j : Nat} (hi : a.length = i) (hj : b.length = j - i) : sub (a ++ b ++ c) i j = b := by
  unfold sub
  rw [List.append_assoc, List.drop_left' hi, List.take_left' hj]
/-- what a label's payload is made of -/
theorem pack_parts {d : List UInt8} {o s h : Int} {b : Bool} (hg : goodL d o s h = true) : (packP d o s h b).length = 11 + d.length ∧ (packP d o s h b).drop 11 = d ∧ numV (sub (packP d o s h b) 1 3) = o ∧ numV (sub (packP d o s h b) 3 5) = h ∧ numV (sub (packP d o s h b) 5 11) = s + 1 ∧ uB (packP d o s h b) = b := by
  obtain ⟨hnm, hl12, hall, hs0, hs1, ho0, ho1, hh0, hh1⟩ := good_facts hg
  obtain ⟨l1, _, v1⟩ := digP_facts (n := o) (m := 2) ho0 (by omega) (by omega) (by omega)
  obtain ⟨l2, _, v2⟩ := digP_facts (n := h) (m := 2) hh0 (by omega) (by omega) (by omega)
  obtain ⟨l3, _, v3⟩ := digP_facts (n := s + 1) (m := 6) (by omega) (by omega) (by omega) (by omega)
  unfold packP
  refine ⟨by simp only [List.length_append, l1, l2, l3, List.length_cons, List.length_nil], ?_, ?_, ?_, ?_, ?_⟩
  · rw [List.drop_left' (by simp only [List.length_append, l1, l2, l3, List.length_cons, List.length_nil])]
  · rw [show ([if b then 49 else 48] ++ digP o 2 ++ digP h 2 ++ digP (s + 1) 6 ++ d) = [if b then 49 else 48] ++ digP o 2 ++ (digP h 2 ++ digP (s + 1) 6 ++ d) by simp only [List.append_assoc], sub_app (i := 1) (j := 3) rfl l1, v1]
  · rw [show ([if b then 49 else 48] ++ digP o 2 ++ digP h 2 ++ digP (s + 1) 6 ++ d) = ([if b then 49 else 48] ++ digP o 2) ++ digP h 2 ++ (digP (s + 1) 6 ++ d) by simp only [List.append_assoc], sub_app (i := 3) (j := 5) (by simp only [List.length_append, l1, List.length_cons, List.length_nil]) l2, v2]
  · rw [sub_app (i := 5) (j := 11) (by simp only [List.length_append, l1, l2, List.length_cons, List.length_nil]) l3, v3]
  · cases b <;> rfl
theorem un_of_pack {d : List UInt8} {o s h : Int} {b : Bool} (hg : goodL d o s h = true) : unOk (packP d o s h b) = true := by
  obtain ⟨h1, h2, h3, h4, h5, h6⟩ := pack_parts (b := b) hg
  have hnm := (good_facts hg).1
  have h1d := (nm_facts hnm).2.2.2
  unfold unOk
  rw [h2, h3, h4, h5, h6, show s + 1 - 1 = s by omega, hg, decide_eq_true (show 12 ≤ (packP d o s h b).length by omega)]
  simp
theorem pack_inj {d d' : List UInt8} {o s h o' s' h' : Int} {b b' : Bool} (hg : goodL d o s h = true) (hg' : goodL d' o' s' h' = true) (he : packP d o s h b = packP d' o' s' h' b') : d = d' ∧ o = o' ∧ s = s' ∧ h = h' ∧ b = b' := by
  obtain ⟨_, h2, h3, h4, h5, h6⟩ := pack_parts (b := b) hg
  obtain ⟨_, g2, g3, g4, g5, g6⟩ := pack_parts (b := b') hg'
  rw [he] at h2 h3 h4 h5 h6
  exact ⟨h2.symm.trans g2, h3.symm.trans g3, by have := h5.symm.trans g5; omega, h4.symm.trans g4, h6.symm.trans g6⟩
theorem di_sym : ∀ k : Nat, k < 256 → isDi (UInt8.ofNat k) = true → isSym (UInt8.ofNat k) = true := by decide +kernel
theorem di_sym' {c : UInt8} (h : isDi c = true) : isSym c = true := by
  have := di_sym c.toNat c.toNat_lt
  rw [UInt8.ofNat_toNat] at this
  exact this h
theorem pack_can {d : List UInt8} {o s h : Int} {b : Bool} (hg : goodL d o s h = true) : canW (packP d o s h b) = true := by
  obtain ⟨h1, _⟩ := pack_parts (b := b) hg
  obtain ⟨hnm, hl12, hall, hs0, hs1, ho0, ho1, hh0, hh1⟩ := good_facts hg
  obtain ⟨_, m1, _⟩ := digP_facts (n := o) (m := 2) ho0 (by omega) (by omega) (by omega)
  obtain ⟨_, m2, _⟩ := digP_facts (n := h) (m := 2) hh0 (by omega) (by omega) (by omega)
  obtain ⟨_, m3, _⟩ := digP_facts (n := s + 1) (m := 6) (by omega) (by omega) (by omega) (by omega)
  rw [canW_iff]
  refine ⟨fun c hc => ?_, by omega, by omega⟩
  unfold packP at hc
  simp only [List.mem_append, List.mem_cons, List.not_mem_nil, or_false] at hc
  rcases hc with (((hc | hc) | hc) | hc) | hc
  · subst hc; cases b <;> decide
  · exact di_sym' (m1 c hc)
  · exact di_sym' (m2 c hc)
  · exact di_sym' (m3 c hc)
  · have := List.all_eq_true.1 hall c hc
    unfold sym36 at this
    simp at this
    exact this.1
theorem un_facts {p : List UInt8} (h : unOk p = true) : 12 ≤ p.length ∧ goodL (p.drop 11) (numV (sub p 1 3)) (numV (sub p 5 11) - 1) (numV (sub p 3 5)) = true ∧ packP (p.drop 11) (numV (sub p 1 3)) (numV (sub p 5 11) - 1) (numV (sub p 3 5)) (uB p) = p := by
  unfold unOk at h
  simp only [Bool.and_eq_true, decide_eq_true_eq, beq_iff_eq] at h
  exact ⟨h.1.1, h.1.2, h.2⟩
end Go.Proofs.YtldicibhfmnjnaaGreatDoor
