/- The plain laws of layer 46, as the statements ask for them. No program in sight. -/
import Derived.Test.YtldicibhfmnjnaaGreatDoorB3
set_option linter.unusedVariables false
set_option linter.unusedSimpArgs false
namespace Go.Proofs.YtldicibhfmnjnaaGreatDoor
open Go

theorem write_ok {p : List UInt8} (h : canW p = true) : writeE p = 0 ∧ writeP p = prt p := by unfold writeE writeP; rw [if_pos h, if_pos h]; exact ⟨rfl, rfl⟩
theorem write_no {p : List UInt8} (h : canW p = false) : writeE p = 1 ∧ writeP p = [] := by unfold writeE writeP; rw [h]; exact ⟨rfl, rfl⟩
theorem read_ok {s p : List UInt8} (hR : canR s = true) (h : readV s = some p) : readE s = 0 ∧ readP s = p := by unfold readE readP; rw [if_pos hR, if_pos hR, h]; exact ⟨rfl, rfl⟩
theorem read_no {s : List UInt8} (hR : canR s = true) (h : readV s = none) : readE s = 20 ∧ readP s = [] := by unfold readE readP; rw [if_pos hR, if_pos hR, h]; exact ⟨rfl, rfl⟩
theorem canR_iff (s : List UInt8) : canR s = true ↔ (∀ c ∈ s, okC c = true) ∧ 3 ≤ s.length ∧ s.length ≤ 36 := by unfold canR; simp [and_assoc]
theorem sym_ok {c : UInt8} (h : isSym c = true) : okC c = true := by unfold okC; rw [h]; rfl
theorem canR_of {p s : List UInt8} (h : canW p = true) (hlen : s.length = p.length + 2) (hok : ∀ c ∈ s, okC c = true) : canR s = true := by
  have := ((canW_iff p).1 h).2
  rw [canR_iff]; exact ⟨hok, by omega, by omega⟩
theorem ok_prt {p : List UInt8} (h : canW p = true) : ∀ c ∈ prt p, okC c = true := fun c hc => sym_ok (prt_sym h c hc)
theorem ok_set {s : List UInt8} (h : ∀ c ∈ s, okC c = true) (i : Nat) {d : UInt8} (hd : okC d = true) : ∀ c ∈ s.set i d, okC c = true := fun c hc => by
  rcases List.mem_or_eq_of_mem_set hc with h1 | rfl
  · exact h c h1
  · exact hd
theorem set_off {s : List UInt8} {i k : Nat} {c : UInt8} (h : k ≠ i) : (s.set i c)[k]? = s[k]? := List.getElem?_set_ne (Ne.symm h)
theorem q_ok : okC 63 = true := by decide
theorem q_set {s t : List UInt8} (h : ∀ (k : Nat) (c : UInt8), s[k]? = some c → c = 63 ∨ t[k]? = some c) (i : Nat) : ∀ (k : Nat) (c : UInt8), (s.set i 63)[k]? = some c → c = 63 ∨ t[k]? = some c := fun k c hc => by
  rcases Nat.decEq k i with hk | hk
  · rw [set_off hk] at hc; exact h k c hc
  · subst hk
    rw [List.getElem?_set] at hc
    simp at hc
    exact .inl hc.2.symm
theorem q_self (t : List UInt8) : ∀ (k : Nat) (c : UInt8), t[k]? = some c → c = 63 ∨ t[k]? = some c := fun _ _ h => .inr h
theorem read_prt {p : List UInt8} (h : canW p = true) : readE (prt p) = 0 ∧ readP (prt p) = p :=
  read_ok (canR_of h (prt_len p) (ok_prt h)) (read_q h (prt_len p) 0 0 (fun _ _ _ => rfl) (q_self _))
theorem un_one {p : List UInt8} (h : canW p = true) (i : Nat) : readE ((prt p).set i 63) = 0 ∧ readP ((prt p).set i 63) = p :=
  read_ok (canR_of h (by rw [List.length_set, prt_len]) (ok_set (ok_prt h) i q_ok)) (read_q h (by rw [List.length_set, prt_len]) i i (fun k hk _ => set_off hk) (q_set (q_self _) i))
theorem un_two {p : List UInt8} (h : canW p = true) (i j : Nat) : readE (((prt p).set i 63).set j 63) = 0 ∧ readP (((prt p).set i 63).set j 63) = p :=
  read_ok (canR_of h (by rw [List.length_set, List.length_set, prt_len]) (ok_set (ok_set (ok_prt h) i q_ok) j q_ok)) (read_q h (by rw [List.length_set, List.length_set, prt_len]) i j (fun k hk hk2 => by rw [set_off hk2, set_off hk]) (q_set (q_set (q_self _) i) j))
theorem at_set {s : List UInt8} {i : Nat} (h : i < s.length) (c : UInt8) : (s.set i c)[i]? = some c := List.getElem?_set_self h
theorem un_three {p : List UInt8} (h : canW p = true) (i j k : Nat) (hi : i < (prt p).length) (hj : j < (prt p).length) (hk : k < (prt p).length) (h1 : i ≠ j) (h2 : j ≠ k) (h3 : i ≠ k) :
    readE ((((prt p).set i 63).set j 63).set k 63) = 20 ∧ readP ((((prt p).set i 63).set j 63).set k 63) = [] :=
  read_no (canR_of h (by rw [List.length_set, List.length_set, List.length_set, prt_len]) (ok_set (ok_set (ok_set (ok_prt h) i q_ok) j q_ok) k q_ok))
    (read_three (i := i) (j := j) (k := k) (by rw [set_off h3, set_off h1, at_set hi]) (by rw [set_off h2, at_set (by simpa using hj)]) (at_set (by simpa using hk) _) h1 h2 h3)
theorem un_three' {p : List UInt8} (h : canW p = true) (i j k : Nat) (hne : ¬ (i ≠ j ∧ j ≠ k ∧ i ≠ k)) :
    readE ((((prt p).set i 63).set j 63).set k 63) = 0 ∧ readP ((((prt p).set i 63).set j 63).set k 63) = p := by
  by_cases h1 : i = j
  · subst h1; rw [List.set_set]; exact un_two h i k
  by_cases h2 : j = k
  · subst h2; rw [List.set_set]; exact un_two h i j
  by_cases h3 : i = k
  · subst h3; rw [List.set_comm _ _ h1, List.set_set]; exact un_two h j i
  · exact absurd ⟨h1, h2, h3⟩ hne
theorem wr_ne {p : List UInt8} (h : canW p = true) (i : Nat) (hi : i < (prt p).length) {c : UInt8} (hc : isSym c = true) (hne : (prt p)[i]? ≠ some c) : readE ((prt p).set i c) = 20 ∧ readP ((prt p).set i c) = [] :=
  read_no (canR_of h (by rw [List.length_set, prt_len]) (ok_set (ok_prt h) i (sym_ok hc))) (read_wrong h (by rw [List.length_set, prt_len]) i i (fun k hk _ => set_off hk) i c (at_set hi c) hc hne)
theorem set_same {s : List UInt8} {i : Nat} {c : UInt8} (h : s[i]? = some c) : s.set i c = s := by
  apply List.ext_getElem?
  intro k
  rcases Nat.decEq k i with hk | hk
  · rw [set_off hk]
  · subst hk
    rcases Nat.lt_or_ge k s.length with h1 | h1
    · rw [at_set h1, h]
    · rw [List.getElem?_eq_none h1] at h; cases h
theorem ex_ne {p : List UInt8} (h : canW p = true) (i j : Nat) {a b : UInt8} (hi : (prt p)[i]? = some a) (hj : (prt p)[j]? = some b) (hab : a ≠ b) : readE (((prt p).set i b).set j a) = 20 ∧ readP (((prt p).set i b).set j a) = [] := by
  have hjl : j < (prt p).length := by rcases Nat.lt_or_ge j (prt p).length with h | h; exact h; rw [List.getElem?_eq_none h] at hj; cases hj
  have ha := prt_sym h a (List.mem_of_getElem? hi)
  have hb := prt_sym h b (List.mem_of_getElem? hj)
  exact read_no (canR_of h (by rw [List.length_set, List.length_set, prt_len]) (ok_set (ok_set (ok_prt h) i (sym_ok hb)) j (sym_ok ha)))
    (read_wrong h (by rw [List.length_set, List.length_set, prt_len]) i j (fun k hk hk2 => by rw [set_off hk2, set_off hk]) j a (at_set (by simpa using hjl) a) ha (by rw [hj]; intro e; injection e with e; exact hab e.symm))
theorem ex_eq {p : List UInt8} (i j : Nat) {a : UInt8} (hi : (prt p)[i]? = some a) (hj : (prt p)[j]? = some a) : ((prt p).set i a).set j a = prt p := by
  rw [set_same hi, set_same hj]
theorem both_ne {p : List UInt8} (h : canW p = true) (i j : Nat) (hij : i ≠ j) (hjl : j < (prt p).length) {c : UInt8} (hc : isSym c = true) (hne : (prt p)[j]? ≠ some c) : readE (((prt p).set i 63).set j c) = 20 ∧ readP (((prt p).set i 63).set j c) = [] :=
  read_no (canR_of h (by rw [List.length_set, List.length_set, prt_len]) (ok_set (ok_set (ok_prt h) i q_ok) j (sym_ok hc)))
    (read_wrong h (by rw [List.length_set, List.length_set, prt_len]) i j (fun k hk hk2 => by rw [set_off hk2, set_off hk]) j c (at_set (by simpa using hjl) c) hc hne)
/-- how many places differ -/
def diffs : List UInt8 → List UInt8 → Nat
  | a :: l, b :: m => (if a = b then 0 else 1) + diffs l m
  | _, _ => 0
theorem diffs_zero : ∀ (l m : List UInt8), l.length = m.length → diffs l m = 0 → l = m
  | [], [], _, _ => rfl
  | a :: l, b :: m, hl, h => by
    unfold diffs at h
    by_cases hab : a = b
    · subst hab
      rw [diffs_zero l m (by simpa using hl) (by omega)]
    · rw [if_neg hab] at h; omega
  | [], _ :: _, hl, _ => by simp at hl
  | _ :: _, [], hl, _ => by simp at hl
theorem diffs_one : ∀ (l m : List UInt8), l.length = m.length → diffs l m ≤ 1 → ∃ i : Nat, ∀ k : Nat, k ≠ i → l[k]? = m[k]?
  | [], [], _, _ => ⟨0, fun _ _ => rfl⟩
  | a :: l, b :: m, hl, h => by
    unfold diffs at h
    by_cases hab : a = b
    · subst hab
      obtain ⟨i, hi⟩ := diffs_one l m (by simpa using hl) (by omega)
      refine ⟨i + 1, fun k hk => ?_⟩
      match k with
      | 0 => rfl
      | k + 1 => simpa using hi k (by omega)
    · rw [if_neg hab] at h
      have := diffs_zero l m (by simpa using hl) (by omega)
      subst this
      refine ⟨0, fun k hk => ?_⟩
      match k with
      | 0 => omega
      | k + 1 => rfl
  | [], _ :: _, hl, _ => by simp at hl
  | _ :: _, [], hl, _ => by simp at hl
theorem diffs_two : ∀ (l m : List UInt8), l.length = m.length → diffs l m ≤ 2 → ∃ i j : Nat, ∀ k : Nat, k ≠ i → k ≠ j → l[k]? = m[k]?
  | [], [], _, _ => ⟨0, 0, fun _ _ _ => rfl⟩
  | a :: l, b :: m, hl, h => by
    unfold diffs at h
    by_cases hab : a = b
    · subst hab
      obtain ⟨i, j, hi⟩ := diffs_two l m (by simpa using hl) (by omega)
      refine ⟨i + 1, j + 1, fun k hk hk2 => ?_⟩
      match k with
      | 0 => rfl
      | k + 1 => simpa using hi k (by omega) (by omega)
    · rw [if_neg hab] at h
      obtain ⟨i, hi⟩ := diffs_one l m (by simpa using hl) (by omega)
      refine ⟨0, i + 1, fun k hk hk2 => ?_⟩
      match k with
      | 0 => omega
      | k + 1 => simpa using hi k (by omega)
  | [], _ :: _, hl, _ => by simp at hl
  | _ :: _, [], hl, _ => by simp at hl
theorem prt_inj {p q : List UInt8} (h : prt p = prt q) (hl : p.length = q.length) : p = q := by
  have := congrArg (List.take p.length) h
  unfold prt at this
  rw [List.take_append_of_le_length (Nat.le_refl _), List.take_append_of_le_length (by omega), List.take_length, hl, List.take_length] at this
  exact this
theorem vals_inj {s t : List UInt8} (hs : ∀ c ∈ s, isSym c = true) (ht : ∀ c ∈ t, isSym c = true) (h : vals s = vals t) : s = t := by rw [← vals_back hs, ← vals_back ht, h]
theorem far {p q : List UInt8} (hp : canW p = true) (hq : canW q = true) (hl : p.length = q.length) (hne : p ≠ q) : 3 ≤ diffs (prt p) (prt q) := by
  rcases Nat.lt_or_ge (diffs (prt p) (prt q)) 3 with h | h
  · exfalso
    obtain ⟨i, j, hk⟩ := diffs_two (prt p) (prt q) (by rw [prt_len, prt_len, hl]) (by omega)
    have h34 := ((canW_iff p).1 hp).2
    have he := agree_eq (prt_word hp) (prt_word hq) (by simp [vals, prt_len, hl]) (by simp [vals, prt_len]; omega) i j (fun k h1 h2 => by rw [vals_at, vals_at, hk k h1 h2])
    exact hne (prt_inj (vals_inj (prt_sym hp) (prt_sym hq) he) hl)
  · exact h
/-- what Read accepts without '?' is the printed text of its result -/
theorem read_write {s : List UInt8} (hq : ∀ c ∈ s, c ≠ 63) (h : readE s = 0) : canW (readP s) = true ∧ prt (readP s) = s := by
  unfold readE at h
  cases hR : canR s with
  | false => rw [hR] at h; simp at h
  | true =>
    rw [hR] at h
    simp only [if_true] at h
    obtain ⟨h1, h2, h3⟩ := (canR_iff s).1 hR
    have hsym : ∀ c ∈ s, isSym c = true := fun c hc => by
      have := h1 c hc
      unfold okC at this
      simp only [Bool.or_eq_true, beq_iff_eq] at this
      exact this.resolve_right (hq c hc)
    have hr := vals_range hsym
    have hm : miss 0 (vals s) = [] := by
      apply List.eq_nil_iff_forall_not_mem.2
      intro i hi
      obtain ⟨v, hv, hneg⟩ := (miss0 _ i).1 hi
      have := hr v (List.mem_of_getElem? hv)
      omega
    have hf : fillP (vals s) = some (vals s) := by unfold fillP; rw [hm]
    have hrv : readV s = if oneP (vals s) = 0 ∧ twoP (vals s) = 0 then some (((vals s).take ((vals s).length - 2)).map symC) else none := by unfold readV; rw [hf]; rfl
    by_cases hz : oneP (vals s) = 0 ∧ twoP (vals s) = 0
    · rw [if_pos hz] at hrv
      have hp : readP s = s.take (s.length - 2) := by
        unfold readP
        rw [if_pos hR, hrv]
        show ((vals s).take _).map symC = _
        rw [List.map_take, vals_back hsym]
        simp [vals]
      have hw := (word_sums hr).1 hz
      have hcw : canW (readP s) = true := by
        rw [hp, canW_iff]
        refine ⟨fun c hc => hsym c (List.mem_of_mem_take hc), ?_, ?_⟩ <;> simp <;> omega
      refine ⟨hcw, ?_⟩
      have hlen : (prt (readP s)).length = s.length := by rw [prt_len, hp]; simp; omega
      refine vals_inj (prt_sym hcw) hsym (agree_eq (prt_word hcw) hw (by simp [vals, hlen]) (by simp [vals]; omega) (s.length - 2) (s.length - 1) (fun k hk1 hk2 => ?_))
      rw [vals_at, vals_at]
      congr 1
      rcases Nat.lt_or_ge k (s.length - 2) with hlt | hge
      · unfold prt
        rw [List.getElem?_append_left (by rw [hp]; simp; omega), hp, List.getElem?_take_of_lt hlt]
      · rw [List.getElem?_eq_none (by omega), List.getElem?_eq_none (by omega)]
    · rw [hrv, if_neg hz] at h; simp at h
end Go.Proofs.YtldicibhfmnjnaaGreatDoor
