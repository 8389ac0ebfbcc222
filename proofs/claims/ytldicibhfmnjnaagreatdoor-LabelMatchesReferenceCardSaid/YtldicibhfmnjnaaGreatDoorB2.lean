/- The plain side of layer 46: what Write and Read compute. No program in sight. -/
import Derived.Test.YtldicibhfmnjnaaGreatDoorB1
set_option linter.unusedVariables false
set_option linter.unusedSimpArgs false
namespace Go.Proofs.YtldicibhfmnjnaaGreatDoor
open Go

def canW (p : List UInt8) : Bool := p.all isSym && decide (1 ≤ p.length) && decide (p.length ≤ 34)
def vals (s : List UInt8) : List Int := s.map symV
def oneP (l : List Int) : Int := mod37 (s1 (l.map pos))
def twoP (l : List Int) : Int := mod37 (s2 0 (l.map pos))
def chk (p : List UInt8) : List UInt8 := [symC (solA (oneP (vals p)) (twoP (vals p)) p.length (p.length + 1)), symC (solB (oneP (vals p)) (twoP (vals p)) p.length (p.length + 1))]
def writeP (p : List UInt8) : List UInt8 := if canW p then p ++ chk p else []
def writeE (p : List UInt8) : Int := if canW p then 0 else 1
/-- the places that could not be read -/
def miss : Nat → List Int → List Nat
  | _, [] => []
  | k, v :: l => if v < 0 then k :: miss (k + 1) l else miss (k + 1) l
def fillP (l : List Int) : Option (List Int) := match miss 0 l with
  | [] => some l
  | [i] => some (l.set i (mod37 (-(oneP l))))
  | [i, j] => some ((l.set i (solA (oneP l) (twoP l) i j)).set j (solB (oneP l) (twoP l) i j))
  | _ => none
def canR (s : List UInt8) : Bool := s.all okC && decide (3 ≤ s.length) && decide (s.length ≤ 36)
def readV (s : List UInt8) : Option (List UInt8) := (fillP (vals s)).bind fun f => if oneP f = 0 ∧ twoP f = 0 then some ((f.take (f.length - 2)).map symC) else none
def readP (s : List UInt8) : List UInt8 := if canR s then (readV s).getD [] else []
def readE (s : List UInt8) : Int := if canR s then (if (readV s).isSome then 0 else 20) else 1

theorem miss_mem : ∀ (l : List Int) (k i : Nat), i ∈ miss k l ↔ k ≤ i ∧ ∃ v, l[i - k]? = some v ∧ v < 0
  | [], k, i => by simp [miss]
  | v :: l, k, i => by
    unfold miss
    rcases Nat.lt_trichotomy i k with h | h | h
    · constructor
      · intro hm
        split at hm
        · rcases List.mem_cons.1 hm with h1 | h1
          · omega
          · have := ((miss_mem l (k + 1) i).1 h1).1; omega
        · have := ((miss_mem l (k + 1) i).1 hm).1; omega
      · rintro ⟨h1, _⟩; omega
    · subst h
      constructor
      · intro hm
        split at hm
        · rename_i hv
          exact ⟨Nat.le_refl _, v, by simp, hv⟩
        · have := ((miss_mem l (i + 1) i).1 hm).1; omega
      · rintro ⟨_, u, hu, hneg⟩
        simp at hu
        subst hu
        rw [if_pos hneg]; exact List.mem_cons_self ..
    · have e : (v :: l)[i - k]? = l[i - (k + 1)]? := by rw [show i - k = (i - (k + 1)) + 1 by omega, List.getElem?_cons_succ]
      rw [e]
      have ih := miss_mem l (k + 1) i
      constructor
      · intro hm
        split at hm
        · rcases List.mem_cons.1 hm with h1 | h1
          · omega
          · exact ⟨by omega, (ih.1 h1).2⟩
        · exact ⟨by omega, (ih.1 hm).2⟩
      · rintro ⟨_, hx⟩
        have := ih.2 ⟨by omega, hx⟩
        split
        · exact List.mem_cons_of_mem _ this
        · exact this
theorem miss_sorted : ∀ (l : List Int) (k : Nat), (miss k l).Pairwise (· < ·)
  | [], _ => by simp [miss]
  | v :: l, k => by
    unfold miss
    split
    · refine List.pairwise_cons.2 ⟨fun i hi => ?_, miss_sorted l (k + 1)⟩
      have := ((miss_mem l (k + 1) i).1 hi).1; omega
    · exact miss_sorted l (k + 1)
theorem miss0 (l : List Int) (i : Nat) : i ∈ miss 0 l ↔ ∃ v, l[i]? = some v ∧ v < 0 := by rw [miss_mem]; simp

/-! ### words that are seen with at most two places changed -/
theorem map_pos {l : List Int} (h : ∀ v ∈ l, 0 ≤ v ∧ v < 37) : l.map pos = l := by
  conv => rhs; rw [← List.map_id l]
  exact List.map_congr_left (fun v hv => by have := h v hv; unfold pos; simp; omega)
theorem word_sums {l : List Int} (h : ∀ v ∈ l, 0 ≤ v ∧ v < 37) : (oneP l = 0 ∧ twoP l = 0) ↔ isWord l := by
  unfold oneP twoP isWord mod37
  rw [map_pos h]
  exact ⟨fun ⟨a, b⟩ => ⟨h, a, b⟩, fun ⟨_, a, b⟩ => ⟨a, b⟩⟩
theorem agree_eq {f l : List Int} (hf : isWord f) (hl : isWord l) (hlen : f.length = l.length) (hn : l.length ≤ 36) (i j : Nat) (h : ∀ k : Nat, k ≠ i → k ≠ j → f[k]? = l[k]?) : f = l := by
  have one : ∀ k0 : Nat, (∀ k : Nat, k ≠ k0 → f[k]? = l[k]?) → f = l := by
    intro k0 hk
    apply List.ext_getElem?
    intro k
    rcases Nat.decEq k k0 with hne | hne
    · exact hk k hne
    · subst hne
      rcases Nat.lt_or_ge k l.length with hlt | hge
      · have hfk : f[k]? = some f[k] := List.getElem?_eq_getElem (by omega)
        have hlk : l[k]? = some l[k] := List.getElem?_eq_getElem hlt
        have hset : l.set k f[k] = f := by
          apply List.ext_getElem?
          intro m
          rcases Nat.decEq m k with hm | hm
          · rw [List.getElem?_set_ne (Ne.symm hm), hk m hm]
          · subst hm; rw [List.getElem?_set_self hlt, hfk]
        have := word_one hl hlk (hf.1 _ (List.mem_of_getElem? hfk)) (by rw [hset]; exact hf.2.1)
        rw [hfk, hlk, this]
      · rw [List.getElem?_eq_none hge, List.getElem?_eq_none (by omega)]
  by_cases hij : i = j
  · subst hij; exact one i (fun k hk => h k hk hk)
  rcases Nat.lt_or_ge i l.length with hi | hi
  · rcases Nat.lt_or_ge j l.length with hj | hj
    · have hfi : f[i]? = some f[i] := List.getElem?_eq_getElem (by omega)
      have hli : l[i]? = some l[i] := List.getElem?_eq_getElem hi
      have hfj : f[j]? = some f[j] := List.getElem?_eq_getElem (by omega)
      have hlj : l[j]? = some l[j] := List.getElem?_eq_getElem hj
      have hset : (l.set i f[i]).set j f[j] = f := by
        apply List.ext_getElem?
        intro m
        rcases Nat.decEq m j with hm | hm
        · rw [List.getElem?_set_ne (Ne.symm hm)]
          rcases Nat.decEq m i with hm2 | hm2
          · rw [List.getElem?_set_ne (Ne.symm hm2), h m hm2 hm]
          · subst hm2; rw [List.getElem?_set_self hi, hfi]
        · subst hm; rw [List.getElem?_set_self (by simpa using hj), hfj]
      obtain ⟨h1, h2⟩ := word_two hl hn hij hli hlj (hf.1 _ (List.mem_of_getElem? hfi)) (hf.1 _ (List.mem_of_getElem? hfj)) (by rw [hset]; exact hf.2.1) (by rw [hset]; exact hf.2.2)
      apply List.ext_getElem?
      intro m
      rcases Nat.decEq m j with hm | hm
      · rcases Nat.decEq m i with hm2 | hm2
        · exact h m hm2 hm
        · subst hm2; rw [hfi, hli, h1]
      · subst hm; rw [hfj, hlj, h2]
    · refine one i (fun k hk => ?_)
      rcases Nat.decEq k j with hkj | hkj
      · exact h k hk hkj
      · subst hkj; rw [List.getElem?_eq_none hj, List.getElem?_eq_none (by omega)]
  · refine one j (fun k hk => ?_)
    rcases Nat.decEq k i with hki | hki
    · exact h k hki hk
    · subst hki; rw [List.getElem?_eq_none hi, List.getElem?_eq_none (by omega)]
/-- what fill makes -/
theorem fill_spec {l f : List Int} (hl : ∀ v ∈ l, -1 ≤ v ∧ v < 37) (h : fillP l = some f) : f.length = l.length ∧ (∀ v ∈ f, 0 ≤ v ∧ v < 37) ∧ ∀ (k : Nat) (v : Int), l[k]? = some v → 0 ≤ v → f[k]? = some v := by
  unfold fillP at h
  have hm := miss0 l
  generalize miss 0 l = M at *
  have hneg : ∀ (g : List Int), (∀ (k : Nat) v, g[k]? = some v → 0 ≤ v ∧ v < 37) → ∀ v ∈ g, 0 ≤ v ∧ v < 37 := fun g hg v hv => by
    obtain ⟨k, hk, rfl⟩ := List.getElem_of_mem hv
    exact hg k _ (List.getElem?_eq_getElem hk)
  match M, h with
  | [], h =>
    simp only [Option.some.injEq] at h
    subst h
    refine ⟨rfl, hneg _ (fun k v hv => ?_), fun k v h _ => h⟩
    have h1 := hl v (List.mem_of_getElem? hv)
    rcases Int.lt_or_le v 0 with h2 | h2
    · exact absurd ((hm k).2 ⟨v, hv, h2⟩) (by simp)
    · omega
  | [i], h =>
    simp only [Option.some.injEq] at h
    subst h
    obtain ⟨u, hu, hu0⟩ := (hm i).1 (by simp)
    have hi : i < l.length := by rcases Nat.lt_or_ge i l.length with h | h; exact h; rw [List.getElem?_eq_none h] at hu; cases hu
    refine ⟨by simp, hneg _ (fun k v hv => ?_), fun k v hkv h0 => ?_⟩
    · rcases Nat.decEq k i with hk | hk
      · rw [List.getElem?_set_ne (Ne.symm hk)] at hv
        have h1 := hl v (List.mem_of_getElem? hv)
        rcases Int.lt_or_le v 0 with h2 | h2
        · exact absurd ((hm k).2 ⟨v, hv, h2⟩) (by simpa using hk)
        · omega
      · subst hk
        rw [List.getElem?_set_self hi] at hv
        cases hv; exact mod37_range _
    · have hk : k ≠ i := by rintro rfl; rw [hu] at hkv; cases hkv; omega
      rw [List.getElem?_set_ne (Ne.symm hk)]; exact hkv
  | [i, j], h =>
    simp only [Option.some.injEq] at h
    subst h
    obtain ⟨u, hu, hu0⟩ := (hm i).1 (by simp)
    obtain ⟨x, hx, hx0⟩ := (hm j).1 (by simp)
    have hi : i < l.length := by rcases Nat.lt_or_ge i l.length with h | h; exact h; rw [List.getElem?_eq_none h] at hu; cases hu
    have hj : j < l.length := by rcases Nat.lt_or_ge j l.length with h | h; exact h; rw [List.getElem?_eq_none h] at hx; cases hx
    refine ⟨by simp, hneg _ (fun k v hv => ?_), fun k v hkv h0 => ?_⟩
    · rcases Nat.decEq k j with hkj | hkj
      · rw [List.getElem?_set_ne (Ne.symm hkj)] at hv
        rcases Nat.decEq k i with hk | hk
        · rw [List.getElem?_set_ne (Ne.symm hk)] at hv
          have h1 := hl v (List.mem_of_getElem? hv)
          rcases Int.lt_or_le v 0 with h2 | h2
          · have := (hm k).2 ⟨v, hv, h2⟩
            simp at this
            rcases this with h | h
            · exact absurd h hk
            · exact absurd h hkj
          · omega
        · subst hk
          rw [List.getElem?_set_self hi] at hv
          cases hv; exact mod37_range _
      · subst hkj
        rw [List.getElem?_set_self (by simpa using hj)] at hv
        cases hv; exact mod37_range _
    · have hk : k ≠ i := by rintro rfl; rw [hu] at hkv; cases hkv; omega
      have hk2 : k ≠ j := by rintro rfl; rw [hx] at hkv; cases hkv; omega
      rw [List.getElem?_set_ne (Ne.symm hk2), List.getElem?_set_ne (Ne.symm hk)]; exact hkv
  | _ :: _ :: _ :: _, h => cases h
end Go.Proofs.YtldicibhfmnjnaaGreatDoor
