/- The plain laws of layer 46: printed texts with places that cannot be read, or that are wrong. No program in sight. -/
import Derived.Test.YtldicibhfmnjnaaGreatDoorB2
set_option linter.unusedVariables false
set_option linter.unusedSimpArgs false
namespace Go.Proofs.YtldicibhfmnjnaaGreatDoor
open Go

def prt (p : List UInt8) : List UInt8 := p ++ chk p
theorem chk_len (p : List UInt8) : (chk p).length = 2 := rfl
theorem prt_len (p : List UInt8) : (prt p).length = p.length + 2 := by simp [prt, chk_len]
theorem canW_iff (p : List UInt8) : canW p = true ↔ (∀ c ∈ p, isSym c = true) ∧ 1 ≤ p.length ∧ p.length ≤ 34 := by unfold canW; simp [and_assoc]
theorem prt_sym {p : List UInt8} (h : canW p = true) : ∀ c ∈ prt p, isSym c = true := by
  intro c hc
  unfold prt chk at hc
  rcases List.mem_append.1 hc with h1 | h1
  · exact ((canW_iff p).1 h).1 c h1
  · simp only [List.mem_cons, List.not_mem_nil, or_false] at h1
    rcases h1 with rfl | rfl
    · exact symC_sym (mod37_range _).1 (mod37_range _).2
    · exact symC_sym (mod37_range _).1 (mod37_range _).2
theorem vals_range {s : List UInt8} (h : ∀ c ∈ s, isSym c = true) : ∀ v ∈ vals s, 0 ≤ v ∧ v < 37 := by
  intro v hv
  unfold vals at hv
  obtain ⟨c, hc, rfl⟩ := List.mem_map.1 hv
  have h1 := h c hc
  have h2 := symV_range c
  unfold isSym at h1
  simp at h1
  omega
theorem solA_range (x y : Int) (i j : Nat) : 0 ≤ solA x y i j ∧ solA x y i j < 37 := mod37_range _
theorem solB_range (x y : Int) (i j : Nat) : 0 ≤ solB x y i j ∧ solB x y i j < 37 := mod37_range _
theorem prt_word {p : List UInt8} (h : canW p = true) : isWord (vals (prt p)) := by
  have hr := vals_range (prt_sym h)
  have h34 := ((canW_iff p).1 h).2
  refine ⟨hr, ?_, ?_⟩
  · have e : vals (prt p) = vals p ++ [solA (oneP (vals p)) (twoP (vals p)) p.length (p.length + 1), solB (oneP (vals p)) (twoP (vals p)) p.length (p.length + 1)] := by
      unfold prt chk vals
      rw [List.map_append, List.map_cons, List.map_cons, List.map_nil, symV_C' (solA_range _ _ _ _).1 (solA_range _ _ _ _).2, symV_C' (solB_range _ _ _ _).1 (solB_range _ _ _ _).2]
    rw [e, s1_app]
    have h1 := sol_one (oneP (vals p)) (twoP (vals p)) p.length (p.length + 1)
    have h2 : oneP (vals p) = s1 (vals p) % 37 := by unfold oneP mod37; rw [map_pos (vals_range ((canW_iff p).1 h).1)]
    simp only [s1]
    generalize solA (oneP (vals p)) (twoP (vals p)) p.length (p.length + 1) = a at *
    generalize solB (oneP (vals p)) (twoP (vals p)) p.length (p.length + 1) = b at *
    omega
  · have e : vals (prt p) = vals p ++ [solA (oneP (vals p)) (twoP (vals p)) p.length (p.length + 1), solB (oneP (vals p)) (twoP (vals p)) p.length (p.length + 1)] := by
      unfold prt chk vals
      rw [List.map_append, List.map_cons, List.map_cons, List.map_nil, symV_C' (solA_range _ _ _ _).1 (solA_range _ _ _ _).2, symV_C' (solB_range _ _ _ _).1 (solB_range _ _ _ _).2]
    rw [e, s2_app]
    have h1 := sol_two (oneP (vals p)) (twoP (vals p)) p.length (p.length + 1) (by omega) (by omega)
    have h2 : twoP (vals p) = s2 0 (vals p) % 37 := by unfold twoP mod37; rw [map_pos (vals_range ((canW_iff p).1 h).1)]
    have hvl : (vals p).length = p.length := by simp [vals]
    simp only [s2, hvl]
    generalize solA (oneP (vals p)) (twoP (vals p)) p.length (p.length + 1) = a at *
    generalize solB (oneP (vals p)) (twoP (vals p)) p.length (p.length + 1) = b at *
    rw [show ((0 + p.length : Nat) : Int) = (p.length : Int) by omega, show ((0 + p.length + 1 : Nat) : Int) = ((p.length + 1 : Nat) : Int) by omega]
    generalize a * ((p.length : Int) + 1) = x at *
    generalize b * (((p.length + 1 : Nat) : Int) + 1) = y at *
    omega
theorem vals_back {s : List UInt8} (h : ∀ c ∈ s, isSym c = true) : (vals s).map symC = s := by
  unfold vals
  rw [List.map_map]
  conv => rhs; rw [← List.map_id s]
  exact List.map_congr_left (fun c hc => symC_V c (h c hc))
theorem prt_back {p : List UInt8} (h : canW p = true) : ((vals (prt p)).take ((vals (prt p)).length - 2)).map symC = p := by
  rw [List.map_take, vals_back (prt_sym h)]
  have : (vals (prt p)).length - 2 = p.length := by simp [vals, prt_len]
  rw [this]
  unfold prt
  rw [List.take_append_of_le_length (Nat.le_refl _), List.take_length]
theorem vals_at (s : List UInt8) (k : Nat) : (vals s)[k]? = (s[k]?).map symV := by unfold vals; rw [List.getElem?_map]
theorem vals_low (s : List UInt8) : ∀ v ∈ vals s, -1 ≤ v ∧ v < 37 := by
  intro v hv
  unfold vals at hv
  obtain ⟨c, hc, rfl⟩ := List.mem_map.1 hv
  have := symV_range c
  omega
theorem at_sym {p : List UInt8} (h : canW p = true) {k : Nat} {c : UInt8} (hc : (prt p)[k]? = some c) : 0 ≤ symV c := by
  have := prt_sym h c (List.mem_of_getElem? hc)
  unfold isSym at this
  simpa using this
/-- a seen text that is a printed one but at two places is refused, or read rightly -/
theorem read_close {p s : List UInt8} (h : canW p = true) (hlen : s.length = p.length + 2) (i j : Nat) (hs : ∀ k : Nat, k ≠ i → k ≠ j → s[k]? = (prt p)[k]?) :
    readV s = none ∨ (readV s = some p ∧ ∀ (k : Nat) (c : UInt8), s[k]? = some c → isSym c = true → (prt p)[k]? = some c) := by
  unfold readV
  cases hf : fillP (vals s) with
  | none => exact .inl rfl
  | some f =>
    obtain ⟨h1, h2, h3⟩ := fill_spec (vals_low s) hf
    by_cases hz : oneP f = 0 ∧ twoP f = 0
    · right
      have hw := (word_sums h2).1 hz
      have hL := prt_word h
      have h34 := ((canW_iff p).1 h).2
      have hvs : (vals s).length = s.length := by simp [vals]
      have hvp : (vals (prt p)).length = p.length + 2 := by simp [vals, prt_len]
      have heq : f = vals (prt p) := by
        refine agree_eq hw hL (by omega) (by omega) i j (fun k hki hkj => ?_)
        have e := hs k hki hkj
        rw [vals_at]
        cases hk : (prt p)[k]? with
        | none =>
          rw [hk] at e
          rcases Nat.lt_or_ge k f.length with hlt | hge
          · rw [List.getElem?_eq_none_iff] at e; omega
          · simp [List.getElem?_eq_none hge]
        | some c =>
          rw [hk] at e
          exact h3 k (symV c) (by rw [vals_at, e]; rfl) (at_sym h hk)
      refine ⟨?_, fun k c hk hc => ?_⟩
      · simp only [Option.bind_some, if_pos hz]
        rw [heq, prt_back h]
      · have h5 := h3 k (symV c) (by rw [vals_at, hk]; rfl) (by unfold isSym at hc; simpa using hc)
        rw [heq, vals_at] at h5
        cases hq : (prt p)[k]? with
        | none => rw [hq] at h5; cases h5
        | some d =>
          rw [hq] at h5
          simp at h5
          rw [symV_inj hc h5.symm]
    · left
      simp [hz]
theorem read_wrong {p s : List UInt8} (h : canW p = true) (hlen : s.length = p.length + 2) (i j : Nat) (hs : ∀ k : Nat, k ≠ i → k ≠ j → s[k]? = (prt p)[k]?) (k : Nat) (c : UInt8) (hk : s[k]? = some c) (hc : isSym c = true) (hne : (prt p)[k]? ≠ some c) : readV s = none := by
  rcases read_close h hlen i j hs with h1 | ⟨h1, h2⟩
  · exact h1
  · exact absurd (h2 k c hk hc) hne
/-- with one or two places unreadable it is read -/
theorem read_q {p s : List UInt8} (h : canW p = true) (hlen : s.length = p.length + 2) (i j : Nat) (hs : ∀ k : Nat, k ≠ i → k ≠ j → s[k]? = (prt p)[k]?) (hq : ∀ (k : Nat) (c : UInt8), s[k]? = some c → c = 63 ∨ (prt p)[k]? = some c) : readV s = some p := by
  have hL := prt_word h
  have h34 := ((canW_iff p).1 h).2
  have hvs : (vals s).length = s.length := by simp [vals]
  have hvp : (vals (prt p)).length = p.length + 2 := by simp [vals, prt_len]
  have hmem : ∀ m, m ∈ miss 0 (vals s) → m = i ∨ m = j := by
    intro m hm
    obtain ⟨v, hv, hneg⟩ := (miss0 _ m).1 hm
    rcases Nat.decEq m i with h1 | h1
    · rcases Nat.decEq m j with h2 | h2
      · have e := hs m h1 h2
        rw [vals_at, e] at hv
        cases hq : (prt p)[m]? with
        | none => rw [hq] at hv; cases hv
        | some c =>
          rw [hq] at hv
          simp at hv
          have := at_sym h hq
          omega
      · exact .inr h2
    · exact .inl h1
  have hsrt := miss_sorted (vals s) 0
  have hm0 := miss0 (vals s)
  -- the values that are there are the word's
  have hag : ∀ (k : Nat) (v : Int), (vals s)[k]? = some v → v < 0 ∨ (vals (prt p))[k]? = some v := by
    intro k v hv
    rw [vals_at] at hv
    cases hk : s[k]? with
    | none => rw [hk] at hv; cases hv
    | some c =>
      rw [hk] at hv
      simp at hv
      subst hv
      rcases hq k c hk with rfl | h1
      · left; decide
      · right; rw [vals_at, h1]; rfl
  have key : ∃ f, fillP (vals s) = some f ∧ isWord f := by
    obtain ⟨M, hM⟩ : ∃ M, miss 0 (vals s) = M := ⟨_, rfl⟩
    rw [hM] at hsrt hmem hm0
    match M, hM, hsrt, hmem, hm0 with
    | [], hM, _, _, hm0 =>
      refine ⟨_, by unfold fillP; rw [hM], ?_⟩
      have : vals s = vals (prt p) := by
        apply List.ext_getElem?
        intro k
        rcases Nat.lt_or_ge k (vals s).length with hlt | hge
        · have hv : (vals s)[k]? = some (vals s)[k] := List.getElem?_eq_getElem hlt
          rcases hag k _ hv with h1 | h1
          · exact absurd ((hm0 k).2 ⟨_, hv, h1⟩) (by simp)
          · rw [hv, h1]
        · rw [List.getElem?_eq_none hge, List.getElem?_eq_none (by omega)]
      rw [this]; exact hL
    | [a], hM, _, hmem, hm0 =>
      refine ⟨_, by unfold fillP; rw [hM], ?_⟩
      obtain ⟨u, hu, hu0⟩ := (hm0 a).1 (by simp)
      have hal : a < (vals s).length := by rcases Nat.lt_or_ge a (vals s).length with h | h; exact h; rw [List.getElem?_eq_none h] at hu; cases hu
      have hLa : (vals (prt p))[a]? = some (vals (prt p))[a] := List.getElem?_eq_getElem (by omega)
      have hb := hL.1 _ (List.mem_of_getElem? hLa)
      have hset : vals s = (vals (prt p)).set a u := by
        apply List.ext_getElem?
        intro k
        rcases Nat.decEq k a with hk | hk
        · rw [List.getElem?_set_ne (Ne.symm hk)]
          rcases Nat.lt_or_ge k (vals s).length with hlt | hge
          · have hv : (vals s)[k]? = some (vals s)[k] := List.getElem?_eq_getElem hlt
            rcases hag k _ hv with h1 | h1
            · have := (hm0 k).2 ⟨_, hv, h1⟩; simp at this; exact absurd this hk
            · rw [hv, h1]
          · rw [List.getElem?_eq_none hge, List.getElem?_eq_none (by omega)]
        · subst hk; rw [List.getElem?_set_self (by omega), hu]
      have hu1 : u = -1 := by have := vals_low s u (List.mem_of_getElem? hu); omega
      have h1 : mod37 (-(oneP (vals s))) = (vals (prt p))[a] := by
        have e : s1 ((vals s).map pos) = s1 (vals (prt p)) - (vals (prt p))[a] := by
          rw [hset, List.map_set, map_pos hL.1, s1_set _ a _ _ hLa, hu1]
          show _ + pos (-1) = _
          rw [show pos (-1) = 0 from rfl]; omega
        unfold oneP mod37
        rw [e]
        have := hL.2.1
        omega
      rw [h1, hset, List.set_set]
      have : (vals (prt p)).set a (vals (prt p))[a] = vals (prt p) := List.set_getElem_self _
      rw [this]
      exact hL
    | [a, b], hM, hsrt, hmem, hm0 =>
      have hab : a < b := by simpa using hsrt
      refine ⟨_, by unfold fillP; rw [hM], ?_⟩
      obtain ⟨u, hu, hu0⟩ := (hm0 a).1 (by simp)
      obtain ⟨v, hv, hv0⟩ := (hm0 b).1 (by simp)
      have hal : a < (vals s).length := by rcases Nat.lt_or_ge a (vals s).length with h | h; exact h; rw [List.getElem?_eq_none h] at hu; cases hu
      have hbl : b < (vals s).length := by rcases Nat.lt_or_ge b (vals s).length with h | h; exact h; rw [List.getElem?_eq_none h] at hv; cases hv
      have hu1 : u = -1 := by have := vals_low s u (List.mem_of_getElem? hu); omega
      have hv1 : v = -1 := by have := vals_low s v (List.mem_of_getElem? hv); omega
      obtain ⟨f1, f2, f3⟩ := fill_spec (l := vals s) (f := ((vals s).set a (solA (oneP (vals s)) (twoP (vals s)) a b)).set b (solB (oneP (vals s)) (twoP (vals s)) a b)) (vals_low s) (by
        unfold fillP
        rw [hM])
      refine ⟨f2, ?_, ?_⟩
      · have hv' : ((vals s).map pos)[b]? = some 0 := by rw [List.getElem?_map, hv, hv1]; rfl
        have hu' : ((vals s).map pos)[a]? = some 0 := by rw [List.getElem?_map, hu, hu1]; rfl
        have e : (((vals s).set a (solA (oneP (vals s)) (twoP (vals s)) a b)).set b (solB (oneP (vals s)) (twoP (vals s)) a b)) = (((vals s).map pos).set a (solA (oneP (vals s)) (twoP (vals s)) a b)).set b (solB (oneP (vals s)) (twoP (vals s)) a b) := by
          conv => lhs; rw [← map_pos f2]
          rw [List.map_set, List.map_set, show pos (solA (oneP (vals s)) (twoP (vals s)) a b) = solA (oneP (vals s)) (twoP (vals s)) a b by unfold pos; have := (mod37_range (-(oneP (vals s)) + -(solB (oneP (vals s)) (twoP (vals s)) a b))).1; unfold solA; omega,
            show pos (solB (oneP (vals s)) (twoP (vals s)) a b) = solB (oneP (vals s)) (twoP (vals s)) a b by unfold pos solB; have := (mod37_range (invP (mod37 ((b : Int) - a)) * mod37 (oneP (vals s) * ((a : Int) + 1) + -(twoP (vals s))))).1; omega]
        rw [e, s1_set _ b _ 0 (by rw [List.getElem?_set_ne (by omega)]; exact hv'), s1_set _ a _ 0 hu']
        have h1 := sol_one (oneP (vals s)) (twoP (vals s)) a b
        have h2 : oneP (vals s) = s1 ((vals s).map pos) % 37 := rfl
        omega
      · have hv' : ((vals s).map pos)[b]? = some 0 := by rw [List.getElem?_map, hv, hv1]; rfl
        have hu' : ((vals s).map pos)[a]? = some 0 := by rw [List.getElem?_map, hu, hu1]; rfl
        have e : (((vals s).set a (solA (oneP (vals s)) (twoP (vals s)) a b)).set b (solB (oneP (vals s)) (twoP (vals s)) a b)) = (((vals s).map pos).set a (solA (oneP (vals s)) (twoP (vals s)) a b)).set b (solB (oneP (vals s)) (twoP (vals s)) a b) := by
          conv => lhs; rw [← map_pos f2]
          rw [List.map_set, List.map_set, show pos (solA (oneP (vals s)) (twoP (vals s)) a b) = solA (oneP (vals s)) (twoP (vals s)) a b by unfold pos; have := (mod37_range (-(oneP (vals s)) + -(solB (oneP (vals s)) (twoP (vals s)) a b))).1; unfold solA; omega,
            show pos (solB (oneP (vals s)) (twoP (vals s)) a b) = solB (oneP (vals s)) (twoP (vals s)) a b by unfold pos solB; have := (mod37_range (invP (mod37 ((b : Int) - a)) * mod37 (oneP (vals s) * ((a : Int) + 1) + -(twoP (vals s))))).1; omega]
        rw [e, s2_set _ 0 b _ 0 (by rw [List.getElem?_set_ne (by omega)]; exact hv'), s2_set _ 0 a _ 0 hu']
        have h1 := sol_two (oneP (vals s)) (twoP (vals s)) a b hab (by omega)
        have h2 : twoP (vals s) = s2 0 ((vals s).map pos) % 37 := rfl
        simp only [Int.zero_mul, Int.natCast_zero, Int.zero_add, Int.sub_zero] at *
        generalize solA (oneP (vals s)) (twoP (vals s)) a b * ((a : Int) + 1) = x at *
        generalize solB (oneP (vals s)) (twoP (vals s)) a b * ((b : Int) + 1) = y at *
        omega
    | a :: b :: c :: r, _, hsrt, hmem, _ =>
      simp only [List.pairwise_cons, List.mem_cons] at hsrt
      have h1 := hsrt.1 b (by simp)
      have h2 := hsrt.2.1 c (by simp)
      have h3 := hsrt.1 c (by simp)
      have m1 := hmem a (by simp)
      have m2 := hmem b (by simp)
      have m3 := hmem c (by simp)
      omega
  obtain ⟨f, hf, hw⟩ := key
  rcases read_close h hlen i j hs with h1 | ⟨h1, _⟩
  · unfold readV at h1
    rw [hf] at h1
    simp only [Option.bind_some] at h1
    rw [if_pos ((word_sums hw.1).2 hw)] at h1
    cases h1
  · exact h1
/-- three unreadable places are too many -/
theorem read_three {s : List UInt8} {i j k : Nat} (hi : s[i]? = some 63) (hj : s[j]? = some 63) (hk : s[k]? = some 63) (h1 : i ≠ j) (h2 : j ≠ k) (h3 : i ≠ k) : readV s = none := by
  have hm : ∀ m : Nat, s[m]? = some 63 → m ∈ miss 0 (vals s) := fun m h => (miss0 _ m).2 ⟨-1, by rw [vals_at, h]; rfl, by omega⟩
  have a1 := hm i hi
  have a2 := hm j hj
  have a3 := hm k hk
  unfold readV fillP
  generalize miss 0 (vals s) = M at *
  match M, a1, a2, a3 with
  | [], a1, _, _ => simp at a1
  | [x], a1, a2, _ => simp at a1 a2; omega
  | [x, y], a1, a2, a3 => simp at a1 a2 a3; omega
  | _ :: _ :: _ :: _, _, _, _ => rfl
end Go.Proofs.YtldicibhfmnjnaaGreatDoor
