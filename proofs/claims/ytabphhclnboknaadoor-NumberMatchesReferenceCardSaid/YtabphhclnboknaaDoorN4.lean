/- The plain side of layer 22: texts of house numbers, and what Parse reads in them. -/
import Derived.Test.YtabphhclnboknaaDoorN3
import Derived.Lib.ItoaNum
import Derived.Lib.IndexMore
import Derived.Lib.AtoiAll
import Derived.Lib.SlTrimSet
set_option linter.unusedVariables false
set_option linter.unusedSimpArgs false
namespace Go.Proofs.YtabphhclnboknaaDoor
open Go

def lowers : List UInt8 := [97, 98, 99, 100, 101, 102, 103, 104, 105, 106, 107, 108, 109, 110, 111, 112, 113, 114, 115, 116, 117, 118, 119, 120, 121, 122]
def atoiV (l : List UInt8) : Int := match Lib.atoiAll l with | .ok v => v | .range => Lib.atoiSat l | _ => 0
def fracP (h : HN) : List UInt8 := if 0 < h.den then [32] ++ Lib.itoa h.num ++ [47] ++ Lib.itoa h.den else []
def textP (h : HN) : List UInt8 := Lib.itoa h.n ++ h.l ++ fracP h
def candP (t : List UInt8) : HN :=
  { n := atoiV (Lib.trimRightS (Lib.cut t [32]).1 lowers), l := (Lib.cut t [32]).1.drop (Lib.trimRightS (Lib.cut t [32]).1 lowers).length,
    num := if (Lib.cut (Lib.cut t [32]).2.1 [47]).2.2 then atoiV (Lib.cut (Lib.cut t [32]).2.1 [47]).1 else 0,
    den := if (Lib.cut (Lib.cut t [32]).2.1 [47]).2.2 then atoiV (Lib.cut (Lib.cut t [32]).2.1 [47]).2.1 else 0 }
def parseP (t : List UInt8) : Option HN := if (candP t).valid && decide (textP (candP t) = t) then some (candP t) else none

/-! digits -/
def isDg (c : UInt8) : Prop := 48 ≤ c.toNat ∧ c.toNat ≤ 57
theorem ofNat_dg {d : Nat} (h : d < 10) : (UInt8.ofNat (48 + d)).toNat = 48 + d := by simp; omega
theorem dec_dg : ∀ (u : Nat), ∀ c ∈ Lib.decDigits u, isDg c := by
  intro u
  induction u using Nat.strongRecOn with
  | ind u ih =>
    intro c hc
    rw [Lib.decDigits] at hc
    split at hc
    · rename_i h
      simp only [List.mem_cons, List.not_mem_nil, or_false] at hc
      subst hc
      unfold isDg
      rw [ofNat_dg h]; omega
    · rename_i h
      rcases List.mem_append.1 hc with hc | hc
      · exact ih (u / 10) (by omega) c hc
      · simp only [List.mem_cons, List.not_mem_nil, or_false] at hc
        subst hc
        unfold isDg
        rw [ofNat_dg (by omega)]; omega
theorem dec_ne (u : Nat) : Lib.decDigits u ≠ [] := by
  rw [Lib.decDigits]
  split <;> simp
def val (acc : Nat) (l : List UInt8) : Nat := l.foldl (fun a c => a * 10 + (c.toNat - 48)) acc
theorem val_snoc (acc : Nat) (l : List UInt8) (c : UInt8) : val acc (l ++ [c]) = val acc l * 10 + (c.toNat - 48) := by simp [val]
theorem val_le : ∀ (l : List UInt8) (acc : Nat), acc ≤ val acc l
  | [], acc => Nat.le_refl _
  | c :: r, acc => by
    have := val_le r (acc * 10 + (c.toNat - 48))
    show acc ≤ val (acc * 10 + (c.toNat - 48)) r
    omega
theorem val_dec : ∀ u : Nat, val 0 (Lib.decDigits u) = u := by
  intro u
  induction u using Nat.strongRecOn with
  | ind u ih =>
    rw [Lib.decDigits]
    split
    · rename_i h
      simp only [val, List.foldl_cons, List.foldl_nil]
      rw [ofNat_dg h]; omega
    · rename_i h
      rw [val_snoc, ih (u / 10) (by omega), ofNat_dg (by omega)]; omega
theorem parse_dg : ∀ (l : List UInt8) (acc : Nat), (∀ c ∈ l, isDg c) → val acc l < 1000000000000000000 → Lib.parseUint10 acc l = .ok (val acc l)
  | [], acc, _, _ => rfl
  | c :: r, acc, hd, hv => by
    obtain ⟨h1, h2⟩ := hd c (by simp)
    have hv' : val (acc * 10 + (c.toNat - 48)) r < 1000000000000000000 := hv
    have := val_le r (acc * 10 + (c.toNat - 48))
    rw [Lib.parseUint10, if_pos ⟨h1, h2⟩, if_neg (by omega), if_neg (by omega), parse_dg r _ (fun c' hc' => hd c' (by simp [hc'])) hv']
    rfl
theorem atoi_dec {u : Nat} (h : u < 1000000000000000000) : Lib.atoiAll (Lib.decDigits u) = .ok (u : Int) := by
  have hd := dec_dg u
  have hne := dec_ne u
  have hv := val_dec u
  have hp := parse_dg (Lib.decDigits u) 0 hd (by omega)
  rw [hv] at hp
  cases hl : Lib.decDigits u with
  | nil => exact absurd hl hne
  | cons c r =>
    rw [hl] at hd hp
    obtain ⟨h1, h2⟩ := hd c (by simp)
    unfold Lib.atoiAll Lib.parseMag
    simp only
    rw [if_neg (show ¬ (c.toNat = 43 ∨ c.toNat = 45) by omega), if_neg (by simp), hp]
    simp only
    rw [if_neg (by omega), if_neg (by omega), if_neg (by omega)]
theorem itoa_dec {n : Int} (h : 0 ≤ n) : Lib.itoa n = Lib.decDigits n.toNat := by unfold Lib.itoa; rw [if_neg (by omega)]
theorem atoiV_itoa {n : Int} (h : 0 ≤ n) (h' : n ≤ 9999) : atoiV (Lib.itoa n) = n := by
  unfold atoiV
  rw [itoa_dec h, atoi_dec (by omega)]
  simp only; omega

/-! cuts -/
theorem index_no {b : UInt8} : ∀ {l : List UInt8}, b ∉ l → Lib.index l [b] = -1
  | [], _ => rfl
  | c :: r, h => by
    simp only [List.mem_cons, not_or] at h
    rw [Lib.index, if_neg (by simp [List.isPrefixOf, h.1]), index_no h.2]
    rfl
theorem index_at {b : UInt8} : ∀ {l : List UInt8} (r : List UInt8), b ∉ l → Lib.index (l ++ b :: r) [b] = l.length
  | [], r, _ => by rw [List.nil_append, Lib.index, if_pos (by simp [List.isPrefixOf])]; rfl
  | c :: l, r, h => by
    simp only [List.mem_cons, not_or] at h
    have ih := index_at r h.2
    rw [List.cons_append, Lib.index, if_neg (by simp [List.isPrefixOf, h.1]), ih, if_neg (by simp)]
    simp
theorem cut_no {b : UInt8} {l : List UInt8} (h : b ∉ l) : Lib.cut l [b] = (l, [], false) := by
  unfold Lib.cut
  rw [index_no h, if_neg (by omega)]
theorem cut_at {b : UInt8} {l : List UInt8} (r : List UInt8) (h : b ∉ l) : Lib.cut (l ++ b :: r) [b] = (l, r, true) := by
  unfold Lib.cut
  rw [index_at r h, if_pos (by omega)]
  have e : (l.length : Int).toNat = l.length := by simp
  rw [e]
  simp
theorem trim_at {l m cs : List UInt8} (hl : l ≠ []) (h1 : ∀ c ∈ l, cs.contains c = false) (h2 : ∀ c ∈ m, cs.contains c = true) : Lib.trimRightS (l ++ m) cs = l := by
  unfold Lib.trimRightS
  rw [List.reverse_append]
  have h3 : ∀ (p q : List UInt8), (∀ c ∈ p, cs.contains c = true) → (p ++ q).dropWhile (cs.contains ·) = q.dropWhile (cs.contains ·) := by
    intro p
    induction p with
    | nil => intro q _; rfl
    | cons c p ih =>
      intro q hp
      rw [List.cons_append, List.dropWhile_cons_of_pos (hp c (by simp))]
      exact ih q fun c' hc' => hp c' (by simp [hc'])
  rw [h3 _ _ (fun c hc => h2 c (by simpa using hc))]
  cases hr : l.reverse with
  | nil => simp at hr; exact absurd hr hl
  | cons c p =>
    have hc : c ∈ l := by
      have : c ∈ l.reverse := by rw [hr]; simp
      simpa using this
    rw [List.dropWhile_cons_of_neg (by rw [h1 c hc]; simp)]
    rw [← hr, List.reverse_reverse]

theorem dg_not {l : List UInt8} (h : ∀ c ∈ l, isDg c) {b : UInt8} (hb : b.toNat < 48 ∨ 57 < b.toNat) : b ∉ l := fun hm => by
  obtain ⟨h1, h2⟩ := h b hm
  omega
theorem lowers_nat : ∀ k : Nat, k < 256 → lowers.contains (UInt8.ofNat k) = (decide (97 ≤ k) && decide (k ≤ 122)) := by decide +kernel
theorem lowers_iff (c : UInt8) : lowers.contains c = (decide (97 ≤ c.toNat) && decide (c.toNat ≤ 122)) := by
  have := lowers_nat c.toNat c.toNat_lt
  rwa [UInt8.ofNat_toNat] at this
theorem itoa_dg {n : Int} (h : 0 ≤ n) : (∀ c ∈ Lib.itoa n, isDg c) ∧ Lib.itoa n ≠ [] := by rw [itoa_dec h]; exact ⟨dec_dg _, dec_ne _⟩

/-- Parse reads a valid number's text as it was written -/
theorem cand_text {a : HN} (ha : a.valid = true) : candP (textP a) = a := by
  obtain ⟨h1, h2, h3, h4⟩ := (valid_iff a).1 ha
  obtain ⟨d1, d2, d3, d4, d5⟩ := place_den h4
  simp only at d1 d2 d3 d4 d5
  obtain ⟨nd, nn⟩ := itoa_dg (n := a.n) (by omega)
  have hl : (∀ c ∈ a.l, lowers.contains c = true) ∧ (32 : UInt8) ∉ a.l := by
    rcases (letterB_iff a.l).1 h3 with e | ⟨c, e, c1, c2⟩
    · rw [e]; simp
    · rw [e]
      refine ⟨fun c' hc' => ?_, fun hm => ?_⟩
      · simp only [List.mem_cons, List.not_mem_nil, or_false] at hc'
        subst hc'
        rw [lowers_iff]; simp [c1, c2]
      · simp only [List.mem_cons, List.not_mem_nil, or_false] at hm
        subst hm
        simp at c1
  have hfr : (32 : UInt8) ∉ Lib.itoa a.n ++ a.l := by
    simp only [List.mem_append, not_or]
    exact ⟨dg_not nd (.inl (by decide)), hl.2⟩
  have htr : Lib.trimRightS (Lib.itoa a.n ++ a.l) lowers = Lib.itoa a.n := trim_at nn (fun c hc => by
    obtain ⟨c1, c2⟩ := nd c hc
    rw [lowers_iff]
    simp; omega) hl.1
  have hcut : Lib.cut (textP a) [32] = (Lib.itoa a.n ++ a.l, (if 0 < a.den then Lib.itoa a.num ++ 47 :: Lib.itoa a.den else []), decide (0 < a.den)) := by
    unfold textP fracP
    by_cases hd : 0 < a.den
    · simp only [if_pos hd]
      have e : Lib.itoa a.n ++ a.l ++ ([32] ++ Lib.itoa a.num ++ [47] ++ Lib.itoa a.den) = (Lib.itoa a.n ++ a.l) ++ 32 :: (Lib.itoa a.num ++ 47 :: Lib.itoa a.den) := by simp
      rw [e, cut_at _ hfr]
      simp [hd]
    · simp only [if_neg hd, List.append_nil]
      rw [cut_no hfr]
      simp [hd]
  unfold candP
  rw [hcut]
  simp only [htr]
  have e1 := atoiV_itoa (n := a.n) (by omega) h2
  have e2 : (Lib.itoa a.n ++ a.l).drop (Lib.itoa a.n).length = a.l := by simp
  rw [e1, e2]
  by_cases hd : 0 < a.den
  · simp only [if_pos hd]
    rw [cut_at _ (dg_not (itoa_dg d4).1 (.inl (by decide)))]
    simp only [if_true]
    rw [atoiV_itoa d4 (by omega), atoiV_itoa d2 (by omega)]
  · simp only [if_neg hd]
    have e0 : a.den = 0 := by omega
    have e3 : Lib.cut [] [47] = ([], [], false) := cut_no (by simp)
    rw [e3]
    simp only [Bool.false_eq_true, if_false]
    have hp := place_inj (p := (a.num, a.den)) (q := (0, 0)) h4 (by rw [p00]; exact d1.1 e0)
    simp only [Prod.mk.injEq] at hp
    cases a
    simp only [HN.mk.injEq, true_and]
    exact ⟨hp.1.symm, hp.2.symm⟩
theorem parse_text {a : HN} (ha : a.valid = true) : parseP (textP a) = some a := by
  unfold parseP
  rw [cand_text ha, ha]
  simp
theorem text_inj {a b : HN} (ha : a.valid = true) (hb : b.valid = true) (e : textP a = textP b) : a = b := by
  have h1 := parse_text ha
  rw [e, parse_text hb] at h1
  exact (Option.some.inj h1).symm
theorem parse_some {t : List UInt8} {a : HN} (h : parseP t = some a) : a.valid = true ∧ textP a = t := by
  unfold parseP at h
  split at h
  · rename_i hc
    injection h with h
    subst h
    simpa using hc
  · cases h
end Go.Proofs.YtabphhclnboknaaDoor
