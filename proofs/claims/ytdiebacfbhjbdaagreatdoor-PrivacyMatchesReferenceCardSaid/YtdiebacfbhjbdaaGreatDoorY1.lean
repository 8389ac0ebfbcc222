/- Package lexer at every text: what gap, next and Lex give. No program in sight. -/
import Derived.Test.YtdiebacfbhjbdaaGreatDoorX3
import Derived.Test.YtdiebacfbhjbdaaGreatDoorNm
import Derived.Lib.IndexLaws
import Derived.Lib.IndexAny
import Derived.Lib.Strings
set_option linter.unusedVariables false
set_option linter.unusedSimpArgs false
namespace Go.Proofs.YtdiebacfbhjbdaaGreatDoor
open Go.RowKit

/-- how many bytes of gaps a text begins with; true: in a comment -/
def gapS : Bool → List UInt8 → Nat
  | _, [] => 0
  | false, c :: r => if clsB c = 1 then gapS false r + 1 else if clsB c = 2 then gapS true r + 1 else 0
  | true, c :: r => if c = 10 then gapS false r + 1 else gapS true r + 1
def gapP (t : List UInt8) (i : Nat) : Nat := i + gapS false (t.drop i)
theorem gapS_le : ∀ (l : List UInt8) (b : Bool), gapS b l ≤ l.length
  | [], b => by cases b <;> simp [gapS]
  | c :: r, false => by
    have := gapS_le r false; have := gapS_le r true
    unfold gapS; split
    · simp; omega
    · split <;> simp <;> omega
  | c :: r, true => by
    have := gapS_le r false; have := gapS_le r true
    unfold gapS; split <;> simp <;> omega
theorem gapP_ge (t : List UInt8) (i : Nat) : i ≤ gapP t i := by unfold gapP; omega
theorem gapP_le {t : List UInt8} {i : Nat} (h : i ≤ t.length) : gapP t i ≤ t.length := by
  unfold gapP
  have := gapS_le (t.drop i) false
  rw [List.length_drop] at this
  omega
theorem gapS_run : ∀ (l : List UInt8), runL [1] l + gapS false (l.drop (runL [1] l)) = gapS false l
  | [] => rfl
  | c :: r => by
    have ih := gapS_run r
    by_cases h : clsB c = 1
    · have e : runL [1] (c :: r) = runL [1] r + 1 := by unfold runL; rw [List.takeWhile_cons, if_pos (by rw [h]; rfl)]; rfl
      rw [e, List.drop_succ_cons]
      conv => rhs; unfold gapS
      rw [if_pos h]
      omega
    · have e : runL [1] (c :: r) = 0 := by unfold runL; rw [List.takeWhile_cons, if_neg (by simpa using h)]; rfl
      rw [e]; simp
theorem gapP_wh (t : List UInt8) (i : Nat) : gapP t (whP t i [1]) = gapP t i := by
  unfold gapP whP
  rw [← List.drop_drop]
  have := gapS_run (t.drop i)
  omega
theorem wh_class (t : List UInt8) (i : Nat) (hi : i ≤ t.length) (K : List Int) (h : whP t i K < t.length) : K.contains (atP t (whP t i K)) = false := by
  have key : ∀ (l : List UInt8), runL K l < l.length → ∃ c, l[runL K l]? = some c ∧ K.contains (clsB c) = false := by
    intro l
    induction l with
    | nil => intro h; simp at h
    | cons c r ih =>
      intro h
      by_cases hc : K.contains (clsB c) = true
      · have e : runL K (c :: r) = runL K r + 1 := by unfold runL; rw [List.takeWhile_cons, if_pos hc]; rfl
        rw [e] at h ⊢
        obtain ⟨d, h1, h2⟩ := ih (by simpa using h)
        exact ⟨d, by simpa using h1, h2⟩
      · have e : runL K (c :: r) = 0 := by unfold runL; rw [List.takeWhile_cons, if_neg hc]; rfl
        rw [e]
        exact ⟨c, rfl, by simpa using hc⟩
  obtain ⟨c, h1, h2⟩ := key (t.drop i) (by rw [List.length_drop]; unfold whP at h; omega)
  unfold atP
  have : t[whP t i K]? = some c := by unfold whP; rw [← List.getElem?_drop]; exact h1
  rw [this]; exact h2
theorem whP_le {t : List UInt8} {i : Nat} (h : i ≤ t.length) (K : List Int) : whP t i K ≤ t.length := by
  unfold whP
  have := runL_le K (t.drop i)
  rw [List.length_drop] at this
  omega
theorem whP_ge (t : List UInt8) (i : Nat) (K : List Int) : i ≤ whP t i K := by unfold whP; omega
theorem whP_gt {t : List UInt8} {i : Nat} {K : List Int} (h : K.contains (atP t i) = true) (hi : i < t.length) : i < whP t i K := by
  have e := List.getElem?_eq_getElem hi
  have ha : atP t i = clsB t[i] := by unfold atP; rw [e]
  rw [whP_step e, ← ha, if_pos h]
  have := whP_ge t (i + 1) K
  omega
theorem drop_at {t : List UInt8} {i : Nat} {c : UInt8} (h : t[i]? = some c) : t.drop i = c :: t.drop (i + 1) := by
  have hk : i < t.length := by rcases Nat.lt_or_ge i t.length with h' | h'; exact h'; rw [List.getElem?_eq_none h'] at h; cases h
  rw [List.drop_eq_getElem_cons hk]
  rw [List.getElem?_eq_getElem hk] at h
  rw [Option.some.inj h]
theorem gapP_none {t : List UInt8} {i : Nat} (h1 : atP t i ≠ 1) (h2 : atP t i ≠ 2) : gapP t i = i := by
  unfold gapP
  cases h : t[i]? with
  | none => rw [List.drop_eq_nil_of_le (by rcases Nat.lt_or_ge i t.length with h' | h'; rw [List.getElem?_eq_getElem h'] at h; cases h; exact h')]; rfl
  | some c =>
    have ha : atP t i = clsB c := by unfold atP; rw [h]
    rw [drop_at h, gapS, if_neg (by rw [← ha]; exact h1), if_neg (by rw [← ha]; exact h2)]; rfl
theorem gapS_skip : ∀ (l : List UInt8) (n : Nat), (∀ k, k < n → l[k]? ≠ some 10) → n ≤ l.length → gapS true l = n + gapS true (l.drop n)
  | l, 0, _, _ => by simp
  | [], n + 1, _, h => by simp at h
  | c :: r, n + 1, hk, h => by
    have h0 : c ≠ 10 := fun e => hk 0 (by omega) (by simp [e])
    rw [gapS, if_neg h0, gapS_skip r n (fun k h => by have := hk (k + 1) (by omega); simpa using this) (by simpa using h), List.drop_succ_cons]
    omega
theorem hash_c {c : UInt8} (h : clsB c = 2) : c ≠ 10 := by intro e; subst e; revert h; decide
theorem gapP_hash_none {t : List UInt8} {i : Nat} (h2 : atP t i = 2) (hn : Lib.indexByte (t.drop i) 10 = -1) : gapP t i = t.length := by
  unfold gapP
  cases h : t[i]? with
  | none => unfold atP at h2; rw [h] at h2; cases h2
  | some c =>
    have ha : atP t i = clsB c := by unfold atP; rw [h]
    have hl : i < t.length := by rcases Nat.lt_or_ge i t.length with h' | h'; exact h'; rw [List.getElem?_eq_none h'] at h; cases h
    have hno := Lib.indexByte_none hn
    rw [drop_at h, gapS, if_neg (by rw [← ha, h2]; decide), if_pos (by rw [← ha, h2])]
    rw [drop_at h] at hno
    rw [gapS_skip (t.drop (i + 1)) (t.drop (i + 1)).length (fun k _ => by have := hno (k + 1); simpa using this) (Nat.le_refl _), List.drop_length]
    rw [List.length_drop]
    unfold gapS
    omega
theorem gapP_hash_some {t : List UInt8} {i n : Nat} (h2 : atP t i = 2) (hn : Lib.indexByte (t.drop i) 10 = n) : gapP t (i + n) = gapP t i ∧ i + n < t.length ∧ 1 ≤ n := by
  unfold gapP
  cases h : t[i]? with
  | none => unfold atP at h2; rw [h] at h2; cases h2
  | some c =>
    have ha : atP t i = clsB c := by unfold atP; rw [h]
    obtain ⟨h10, hno⟩ := Lib.indexByte_some hn
    rw [List.getElem?_drop] at h10
    have hl : i + n < t.length := by rcases Nat.lt_or_ge (i + n) t.length with h' | h'; exact h'; rw [List.getElem?_eq_none h'] at h10; cases h10
    have hn1 : 1 ≤ n := by
      rcases Nat.eq_zero_or_pos n with h0 | h0
      · subst h0
        rw [Nat.add_zero, h] at h10
        exact absurd (Option.some.inj h10) (hash_c (by rw [← ha, h2]))
      · exact h0
    obtain ⟨m, rfl⟩ : ∃ m, n = m + 1 := ⟨n - 1, by omega⟩
    refine ⟨?_, hl, hn1⟩
    rw [show (t.drop i) = c :: t.drop (i + 1) from drop_at h]
    rw [gapS, if_neg (by rw [← ha, h2]; decide), if_pos (by rw [← ha, h2])]
    rw [gapS_skip (t.drop (i + 1)) m (fun k hk => by have := hno (k + 1) (by omega); rw [drop_at h] at this; simpa using this) (by rw [List.length_drop]; omega), List.drop_drop]
    rw [show i + 1 + m = i + (m + 1) by omega]
    rw [drop_at h10]
    rw [gapS, if_pos (by decide), gapS, if_pos rfl]
    omega
/-- a token, the offset behind it, and an error -/
def zTk : Tk := ⟨0, 0, 0, []⟩
def strN (t : List UInt8) (i : Nat) : Int := Lib.indexAny (t.drop (i + 1)) [34, 10]
def nextP (t : List UInt8) (i : Nat) : Int × Tk × Nat :=
  if atP t i = 3 then
    if whP t i [3, 4, 5] - i > 24 then (2, zTk, 0) else (0, ⟨1, i, 0, sub t i (whP t i [3, 4, 5])⟩, whP t i [3, 4, 5])
  else if atP t i = 4 then
    if whP t i [4] - i > 13 ∨ atP t (whP t i [4]) = 3 ∨ atP t (whP t i [4]) = 5 then (4, zTk, 0) else (0, ⟨2, i, (numD (sub t i (whP t i [4])) : Nat), sub t i (whP t i [4])⟩, whP t i [4])
  else if atP t i = 6 then
    if strN t i < 0 ∨ (t.drop (i + 1))[(strN t i).toNat]? = some 10 then (6, zTk, 0) else if strN t i > 400 then (2, zTk, 0) else (0, ⟨3, i, 0, (t.drop (i + 1)).take (strN t i).toNat⟩, i + (strN t i).toNat + 2)
  else if (atP t i = 7 ∨ atP t i = 8) ∧ Lib.hasPrefix (t.drop (i + 1)) [61] = true then (0, ⟨4, i, 0, sub t i (i + 2)⟩, i + 2)
  else if atP t i = 8 ∨ atP t i = 9 then (0, ⟨4, i, 0, sub t i (i + 1)⟩, i + 1)
  else (3, zTk, 0)
theorem indexAny_some : ∀ {s chars : List UInt8} {n : Nat}, Lib.indexAny s chars = n → ∃ c, s[n]? = some c ∧ chars.contains c = true ∧ ∀ k, k < n → ∀ b, s[k]? = some b → chars.contains b = false
  | [], _, n, h => by simp [Lib.indexAny] at h
  | b :: l, chars, n, h => by
    unfold Lib.indexAny at h
    by_cases hb : chars.contains b = true
    · rw [if_pos hb] at h
      obtain rfl : n = 0 := by omega
      exact ⟨b, rfl, hb, fun k hk => absurd hk (by omega)⟩
    · rw [if_neg hb] at h
      have hge := Lib.indexAny_ge chars l
      by_cases hm : Lib.indexAny l chars = -1
      · rw [if_pos (by rw [hm]; rfl)] at h; omega
      · rw [if_neg (by simpa using hm)] at h
        obtain ⟨m, rfl⟩ : ∃ m, n = m + 1 := ⟨n - 1, by omega⟩
        obtain ⟨c, h1, h2, h3⟩ := indexAny_some (s := l) (chars := chars) (n := m) (by omega)
        refine ⟨c, by simpa using h1, h2, fun k hk b' hb' => ?_⟩
        match k, hb' with
        | 0, hb' => simp at hb'; subst hb'; simpa using hb
        | k + 1, hb' => exact h3 k (by omega) b' (by simpa using hb')
theorem hasPrefix_one {s : List UInt8} {c : UInt8} : Lib.hasPrefix s [c] = true ↔ s[0]? = some c := by
  rw [← Lib.hasPrefix_of_take]
  cases s with
  | nil => simp
  | cons a r =>
    simp
theorem atP_lt {t : List UInt8} {i : Nat} (h : atP t i ≠ 0) : i < t.length := by
  rcases Nat.lt_or_ge i t.length with h' | h'
  · exact h'
  · unfold atP at h; rw [List.getElem?_eq_none h'] at h; exact absurd rfl h
theorem next_ok {t : List UInt8} {i : Nat} (h : (nextP t i).1 = 0) : i < (nextP t i).2.2 ∧ (nextP t i).2.2 ≤ t.length := by
  unfold nextP at h ⊢
  by_cases h3 : atP t i = 3
  · have hi := atP_lt (t := t) (i := i) (by rw [h3]; decide)
    rw [if_pos h3] at h ⊢
    split at h
    · simp at h
    · rw [if_neg (by assumption)]
      exact ⟨whP_gt (by rw [h3]; rfl) hi, whP_le (by omega) _⟩
  rw [if_neg h3] at h ⊢
  by_cases h4 : atP t i = 4
  · have hi := atP_lt (t := t) (i := i) (by rw [h4]; decide)
    rw [if_pos h4] at h ⊢
    split at h
    · simp at h
    · rw [if_neg (by assumption)]
      exact ⟨whP_gt (by rw [h4]; rfl) hi, whP_le (by omega) _⟩
  rw [if_neg h4] at h ⊢
  by_cases h6 : atP t i = 6
  · have hi := atP_lt (t := t) (i := i) (by rw [h6]; decide)
    rw [if_pos h6] at h ⊢
    split at h
    · simp at h
    · rename_i hq
      rw [if_neg hq]
      split at h
      · simp at h
      · rw [if_neg (by assumption)]
        obtain ⟨n, hn⟩ : ∃ n : Nat, strN t i = n := ⟨(strN t i).toNat, by omega⟩
        obtain ⟨c, hc, _⟩ := indexAny_some hn
        rw [List.getElem?_drop] at hc
        have : i + 1 + n < t.length := by rcases Nat.lt_or_ge (i + 1 + n) t.length with h' | h'; exact h'; rw [List.getElem?_eq_none h'] at hc; cases hc
        rw [hn]
        simp only [Int.toNat_natCast]
        omega
  rw [if_neg h6] at h ⊢
  by_cases h7 : (atP t i = 7 ∨ atP t i = 8) ∧ Lib.hasPrefix (t.drop (i + 1)) [61] = true
  · rw [if_pos h7]
    have := hasPrefix_one.1 h7.2
    rw [List.getElem?_drop] at this
    have : i + 1 + 0 < t.length := by rcases Nat.lt_or_ge (i + 1 + 0) t.length with h' | h'; exact h'; rw [List.getElem?_eq_none h'] at this; cases this
    simp only
    omega
  rw [if_neg h7] at h ⊢
  by_cases h8 : atP t i = 8 ∨ atP t i = 9
  · have hi := atP_lt (t := t) (i := i) (by omega)
    rw [if_pos h8]
    simp only
    omega
  · rw [if_neg h8] at h
    simp at h
/-- all tokens, an error, its offset -/
def lexA : Nat → List UInt8 → Nat → List Tk → List Tk × Int × Int
  | 0, _, _, acc => (acc, 0, 0)
  | f + 1, t, i, acc =>
    if i < t.length then
      if (nextP t i).1 = 0 ∧ acc.length = 5000 then ([], 2, i)
      else if (nextP t i).1 ≠ 0 then ([], (nextP t i).1, i)
      else lexA f t (gapP t (nextP t i).2.2) (acc ++ [(nextP t i).2.1])
    else (acc, 0, 0)
def lexP (t : List UInt8) : List Tk × Int × Int := if t.length > 20000 then ([], 2, -1) else lexA (t.length + 1) t (gapP t 0) []
end Go.Proofs.YtdiebacfbhjbdaaGreatDoor
