/- Package lexer: texts that are one name, out of what Lex gives. No program in sight. -/
import Derived.Test.YtdiebacfbhjbdaaGreatDoorY5
set_option linter.unusedVariables false
set_option linter.unusedSimpArgs false
namespace Go.Proofs.YtdiebacfbhjbdaaGreatDoor
open Go.RowKit

theorem lexA_pre : ∀ (f : Nat) (t : List UInt8) (i : Nat) (acc : List Tk), (lexA f t i acc).2.1 = 0 → ∃ r, (lexA f t i acc).1 = acc ++ r
  | 0, t, i, acc, _ => ⟨[], by simp [lexA]⟩
  | f + 1, t, i, acc, h => by
    rw [lexA] at h ⊢
    split at h
    · rename_i hi
      rw [if_pos hi]
      split at h
      · simp at h
      · rename_i h5
        rw [if_neg h5]
        split at h
        · rename_i hne; exact absurd h hne
        · rename_i hne
          rw [if_neg hne]
          obtain ⟨r, hr⟩ := lexA_pre f t _ _ h
          exact ⟨(nextP t i).2.1 :: r, by rw [hr]; simp⟩
    · rename_i hi
      rw [if_neg hi]
      exact ⟨[], by simp⟩
/-- Lex gives just one token, a name that is the whole text: the text is a name -/
theorem nm_of_lex {d : List UInt8} {xa xn : Int} (h0 : (lexP d).2.1 = 0) (h1 : (lexP d).1 = [⟨1, xa, xn, d⟩]) : isNm d = true := by
  unfold lexP at h0 h1
  split at h0
  · simp at h0
  · rename_i hl
    rw [if_neg hl] at h1
    rw [lexA] at h0 h1
    split at h0
    · rename_i hi
      rw [if_pos hi] at h1
      split at h0
      · simp at h0
      · rename_i h5
        rw [if_neg h5] at h1
        split at h0
        · rename_i hne; exact absurd h0 hne
        · rename_i hne
          rw [if_neg hne] at h1
          obtain ⟨r, hr⟩ := lexA_pre _ _ _ _ h0
          rw [h1, List.nil_append] at hr
          have hx : (nextP d (gapP d 0)).2.1 = ⟨1, xa, xn, d⟩ := by
            have := congrArg List.head? hr
            simpa using this.symm
          have hE : (nextP d (gapP d 0)).1 = 0 := by
            rcases Classical.em ((nextP d (gapP d 0)).1 = 0) with h | h
            · exact h
            · exact absurd h (by simpa using hne)
          clear hr h1 h0 hne h5
          generalize gapP d 0 = i at *
          unfold nextP at hx hE
          by_cases h3 : atP d i = 3
          · rw [if_pos h3] at hx hE
            split at hE
            · simp at hE
            · rename_i h24
              rw [if_neg h24] at hx
              simp only [Tk.mk.injEq] at hx
              have hw := whP_le (t := d) (i := i) (by omega) [3, 4, 5]
              have hge := whP_ge d i [3, 4, 5]
              have hlen := sub_len (t := d) (i := i) hw
              rw [hx.2.2.2] at hlen
              obtain rfl : i = 0 := by omega
              have hall := wh_all d 0 [3, 4, 5]
              rw [hx.2.2.2] at hall
              unfold isNm
              simp only [Bool.and_eq_true, decide_eq_true_eq]
              refine ⟨⟨?_, ?_⟩, by omega⟩
              · cases d with
                | nil => simp at hi
                | cons c r =>
                  unfold atP at h3
                  simp at h3
                  simp [isLet, h3]
              · exact List.all_eq_true.2 fun c hc => hall c hc
          · rw [if_neg h3] at hx hE
            exfalso
            have hz : ∀ {x : Tk}, x = ⟨1, xa, xn, d⟩ → x.k = 1 := fun h => by rw [h]
            have := hz hx
            revert this hE
            (repeat' split) <;> simp [zTk]
    · rename_i hi
      rw [if_neg hi] at h1
      simp at h1
theorem lex_of_nm {d : List UInt8} (h : isNm d = true) : lexP d = ([⟨1, 0, 0, d⟩], 0, 0) := by
  obtain ⟨h1, h2, h3, h4⟩ := nm_facts h
  have hg : gapP d 0 = 0 := gapP_none (by rw [h1]; decide) (by rw [h1]; decide)
  have hn : nextP d 0 = (0, ⟨1, 0, 0, d⟩, d.length) := by
    unfold nextP
    rw [if_pos h1, h2, if_neg (by omega)]
    have : sub d 0 d.length = d := by unfold sub; simp
    rw [this]; rfl
  have hge : gapP d d.length = d.length := by
    unfold gapP; rw [List.drop_length]; rfl
  unfold lexP
  rw [if_neg (by omega), hg, lexA, if_pos (by omega), hn]
  simp only []
  rw [if_neg (by simp), if_neg (by simp), hge]
  cases hd : d.length with
  | zero => omega
  | succ n =>
    rw [lexA, ← hd, if_neg (by omega)]
    rfl
end Go.Proofs.YtdiebacfbhjbdaaGreatDoor
