/- The plain side: the tables of beginnings that Ahead fills. -/
import Derived.Test.YtnpdhbagfkilkaaPlain6
set_option linter.unusedVariables false
set_option linter.unusedSimpArgs false
namespace Go.Proofs.Ytnpdhbagfkilkaa
namespace Wt

def big : Int := 1099511627776
/-- what Ahead's closure answers for a place that is there: the number there and the cost, or a great number -/
def atv (t cost : Int) : Int := if cost < 0 then big else t + cost
/-- one number of Ahead's table out of those before -/
def fstep (W : Wt) (x p : List UInt8) (T : Nat → Nat → Int) (j i : Nat) : Int :=
  if i = 0 then j * W.ins else
  let b0 := atv (T j (i - 1)) W.del
  let b1 := if 0 < j then min (min (min b0 (atv (T (j - 1) i) W.ins)) (atv (T (j - 1) (i - 1)) (same x p (i - 1) (j - 1)).1)) (atv (T (j - 1) (i - 1)) (change W x p (i - 1) (j - 1)).1) else b0
  if 1 < i ∧ 1 < j then min b1 (atv (T (j - 2) (i - 2)) (swap W x p (i - 2) (j - 2)).1) else b1
/-- the distance of the first i bytes of x and the first j of p -/
def F (W : Wt) (x p : List UInt8) (j i : Nat) : Int := dl W (x.take i) (p.take j)

theorem take_succ' {x : List UInt8} {i : Nat} (h : i < x.length) : x.take (i + 1) = x.take i ++ [x[i]] := List.take_succ_eq_append_getElem h
theorem take_pred {x : List UInt8} {i : Nat} (h0 : 0 < i) (h : i ≤ x.length) : x.take i = x.take (i - 1) ++ [x[i - 1]'(by omega)] := by
  have := take_succ' (x := x) (i := i - 1) (by omega)
  rwa [show i - 1 + 1 = i by omega] at this
theorem take_pred2 {x : List UInt8} {i : Nat} (h1 : 1 < i) (h : i ≤ x.length) : x.take i = x.take (i - 2) ++ [x[i - 2]'(by omega), x[i - 1]'(by omega)] := by
  obtain ⟨k, rfl⟩ : ∃ k, i = k + 2 := ⟨i - 2, by omega⟩
  have e1 := take_succ' (x := x) (i := k + 1) (by omega)
  have e2 := take_succ' (x := x) (i := k) (by omega)
  rw [e2, List.append_assoc] at e1
  exact e1
theorem len_take {x : List UInt8} (hx : x.length ≤ 120) (i : Nat) : (x.take i).length ≤ 120 := by simp; omega

theorem F_lo {W : Wt} (hW : W.valid = true) {x p : List UInt8} (hx : x.length ≤ 120) (hp : p.length ≤ 120) (j i : Nat) : 0 ≤ F W x p j i := dl_lo hW (len_take hx i) (len_take hp j)
theorem F_hi {W : Wt} (hW : W.valid = true) {x p : List UInt8} (hx : x.length ≤ 120) (hp : p.length ≤ 120) (j i : Nat) : F W x p j i ≤ 1000000 := dl_hi hW (len_take hx i) (len_take hp j)

theorem same_fst {x p : List UInt8} {i j : Nat} (hi : i < x.length) (hj : j < p.length) : ((same x p i j).1 = 0 ∧ x[i] = p[j]) ∨ ((same x p i j).1 = -1 ∧ x[i] ≠ p[j]) := by
  unfold same
  by_cases h : x[i] = p[j]
  · left; rw [if_pos ⟨hi, hj, (at_inj hi hj).2 h⟩]; exact ⟨rfl, h⟩
  · right; rw [if_neg (fun hc => h ((at_inj hi hj).1 hc.2.2))]; exact ⟨rfl, h⟩
theorem change_fst {W : Wt} {x p : List UInt8} {i j : Nat} (hi : i < x.length) (hj : j < p.length) : ((change W x p i j).1 = W.cc x[i] p[j] ∧ x[i] ≠ p[j]) ∨ ((change W x p i j).1 = -1 ∧ x[i] = p[j]) := by
  unfold change
  by_cases h : x[i] = p[j]
  · right; rw [if_neg (fun hc => hc.2.2 ((at_inj hi hj).2 h))]; exact ⟨rfl, h⟩
  · left
    rw [if_pos ⟨hi, hj, fun hc => h ((at_inj hi hj).1 hc)⟩, at_eq hi, at_eq hj]; exact ⟨rfl, h⟩
theorem swap_fst {W : Wt} {x p : List UInt8} {i j : Nat} (hi : i + 1 < x.length) (hj : j + 1 < p.length) :
    ((swap W x p i j).1 = W.swp ∧ x[i] ≠ p[j] ∧ x[i] = p[j + 1] ∧ x[i + 1] = p[j]) ∨ ((swap W x p i j).1 = -1 ∧ ¬ (x[i] ≠ p[j] ∧ x[i] = p[j + 1] ∧ x[i + 1] = p[j])) := by
  unfold swap
  by_cases h : x[i] ≠ p[j] ∧ x[i] = p[j + 1] ∧ x[i + 1] = p[j]
  · left
    rw [if_pos ⟨hi, hj, fun hc => h.1 ((at_inj (by omega) (by omega)).1 hc), (at_inj (by omega) hj).2 h.2.1, (at_inj hi (by omega)).2 h.2.2⟩]; exact ⟨rfl, h⟩
  · right
    rw [if_neg (fun hc => h ⟨fun e => hc.2.2.1 ((at_inj (by omega) (by omega)).2 e), (at_inj (by omega) hj).1 hc.2.2.2.1, (at_inj hi (by omega)).1 hc.2.2.2.2⟩)]; exact ⟨rfl, h⟩
theorem cc_rng {W : Wt} (hW : W.valid = true) (a b : UInt8) : 0 ≤ W.cc a b ∧ W.cc a b ≤ 1000 := by
  have hv := valid_num hW
  unfold cc
  cases hl : look W.near (a.toNat : Int) (b.toNat : Int) with
  | none => simp; omega
  | some c => simpa using look_le hW hl

theorem F_first {W : Wt} (hW : W.valid = true) {x p : List UInt8} (hx : x.length ≤ 120) (hp : p.length ≤ 120) {j : Nat} (hj : j ≤ p.length) : F W x p j 0 = j * W.ins := by
  have h1 : F W x p j 0 ≤ j * W.ins := by
    have := dl_min hW (len_take hx 0) (len_take hp j) (c := W.ins * ((p.take j).length : Int)) (Al.inss W (p.take j))
    have e : W.ins * ((p.take j).length : Int) = j * W.ins := by rw [List.length_take, Nat.min_eq_left hj, Int.mul_comm]
    rw [e] at this
    exact this
  have h2 : ∀ (q : List UInt8) (c : Int), Al W [] q c → W.ins * q.length ≤ c := by
    intro q c h
    generalize hn : ([] : List UInt8) = n at h
    induction h with
    | nil => simp
    | same => cases hn
    | chg => cases hn
    | ins b _ ih => have := ih hn; simp [Int.mul_add]; omega
    | del => cases hn
    | swp => cases hn
  have h3 := h2 _ _ (dl_al hW (len_take hx 0) (len_take hp j))
  have e : W.ins * ((p.take j).length : Int) = j * W.ins := by rw [List.length_take, Nat.min_eq_left hj, Int.mul_comm]
  unfold F at h1 ⊢
  simp only [List.take_zero] at h1 h3 ⊢
  omega

/-- the tables of beginnings: each number out of those before -/
theorem F_rec {W : Wt} (hW : W.valid = true) {x p : List UInt8} (hx : x.length ≤ 120) (hp : p.length ≤ 120) {j i : Nat} (hj : j ≤ p.length) (hi : i ≤ x.length) : fstep W x p (F W x p) j i = F W x p j i := by
  have hv := valid_num hW
  rcases Nat.eq_zero_or_pos i with rfl | hi0
  · rw [F_first hW hx hp hj]; simp [fstep]
  have lx := len_take hx
  have lp := len_take hp
  have hb := F_hi hW hx hp
  have hl := F_lo hW hx hp
  have ex := take_pred hi0 hi
  -- each way is one that the table looks at
  have up0 : F W x p j i ≤ F W x p j (i - 1) + W.del := by
    refine dl_min hW (lx i) (lp j) ?_
    rw [ex]
    have := (dl_al hW (lx (i - 1)) (lp j)).app (Al.del (x[i - 1]'(by omega)) Al.nil)
    simpa [F] using this
  have upI : 0 < j → F W x p j i ≤ F W x p (j - 1) i + W.ins := fun h => by
    refine dl_min hW (lx i) (lp j) ?_
    have ep := take_pred h hj
    rw [ep]
    have := (dl_al hW (lx i) (lp (j - 1))).app (Al.ins (p[j - 1]'(by omega)) Al.nil)
    simpa [F] using this
  have upS : 0 < j → 0 ≤ (same x p (i - 1) (j - 1)).1 → F W x p j i ≤ F W x p (j - 1) (i - 1) + (same x p (i - 1) (j - 1)).1 := fun h h0 => by
    rcases same_fst (x := x) (p := p) (i := i - 1) (j := j - 1) (by omega) (by omega) with ⟨e1, e2⟩ | ⟨e1, _⟩
    · rw [e1]
      refine dl_min hW (lx i) (lp j) ?_
      have ep := take_pred h hj
      rw [ep, ex, e2]
      exact (dl_al hW (lx (i - 1)) (lp (j - 1))).app (Al.same _ Al.nil)
    · omega
  have upC : 0 < j → 0 ≤ (change W x p (i - 1) (j - 1)).1 → F W x p j i ≤ F W x p (j - 1) (i - 1) + (change W x p (i - 1) (j - 1)).1 := fun h h0 => by
    rcases change_fst (W := W) (x := x) (p := p) (i := i - 1) (j := j - 1) (by omega) (by omega) with ⟨e1, e2⟩ | ⟨e1, _⟩
    · rw [e1]
      refine dl_min hW (lx i) (lp j) ?_
      have ep := take_pred h hj
      rw [ep, ex]
      have := (dl_al hW (lx (i - 1)) (lp (j - 1))).app (Al.chg _ _ e2 Al.nil)
      simpa [F] using this
    · omega
  have upW : 1 < i → 1 < j → 0 ≤ (swap W x p (i - 2) (j - 2)).1 → F W x p j i ≤ F W x p (j - 2) (i - 2) + (swap W x p (i - 2) (j - 2)).1 := fun h1 h2 h0 => by
    rcases swap_fst (W := W) (x := x) (p := p) (i := i - 2) (j := j - 2) (by omega) (by omega) with ⟨e1, e2, e3, e4⟩ | ⟨e1, _⟩
    · rw [e1]
      refine dl_min hW (lx i) (lp j) ?_
      have g3 : p[j - 2 + 1]'(by omega) = p[j - 1]'(by omega) := by congr 1; omega
      have g4 : x[i - 2 + 1]'(by omega) = x[i - 1]'(by omega) := by congr 1; omega
      rw [g3] at e3
      rw [g4] at e4
      rw [take_pred2 h1 hi, take_pred2 h2 hj, ← e3, ← e4]
      have := (dl_al hW (lx (i - 2)) (lp (j - 2))).app (Al.swp (x[i - 2]'(by omega)) (x[i - 1]'(by omega)) (by rw [e4]; exact e2) Al.nil)
      exact this.cast (by unfold F; omega)
    · omega
  -- and the least way ends in one of them
  have low : (F W x p j (i - 1) + W.del ≤ F W x p j i) ∨ (0 < j ∧ F W x p (j - 1) i + W.ins ≤ F W x p j i) ∨ (0 < j ∧ 0 ≤ (same x p (i - 1) (j - 1)).1 ∧ F W x p (j - 1) (i - 1) + (same x p (i - 1) (j - 1)).1 ≤ F W x p j i) ∨
      (0 < j ∧ 0 ≤ (change W x p (i - 1) (j - 1)).1 ∧ F W x p (j - 1) (i - 1) + (change W x p (i - 1) (j - 1)).1 ≤ F W x p j i) ∨ (1 < i ∧ 1 < j ∧ 0 ≤ (swap W x p (i - 2) (j - 2)).1 ∧ F W x p (j - 2) (i - 2) + (swap W x p (i - 2) (j - 2)).1 ≤ F W x p j i) := by
    have hpos : ∀ {q : List UInt8} {b : UInt8}, p.take j = q ++ [b] → 0 < j := fun {q b} h => by
      rcases Nat.eq_zero_or_pos j with h0 | h0
      · subst h0; simp at h
      · exact h0
    have tl : ∀ {z u v : List UInt8} {a b : UInt8}, u ++ [a] = v ++ [b] → u = v ∧ a = b := fun {z u v a b} h => by
      have := List.append_inj' h rfl
      exact ⟨this.1, by simpa using this.2⟩
    cases (dl_al hW (lx i) (lp j)).last with
    | nil e1 _ _ => have := congrArg List.length e1; simp at this; exfalso; rcases this with h | h
                    · omega
                    · subst h; simp at hi; omega
    | same a x' y' e1 e2 h =>
      have h0 := hpos e2
      rw [ex] at e1
      rw [take_pred h0 hj] at e2
      obtain ⟨rfl, g1⟩ := tl (z := []) e1
      obtain ⟨rfl, g2⟩ := tl (z := []) e2
      right; right; left
      rcases same_fst (x := x) (p := p) (i := i - 1) (j := j - 1) (by omega) (by omega) with ⟨e1, _⟩ | ⟨_, e2⟩
      · refine ⟨h0, by omega, ?_⟩
        rw [e1, Int.add_zero]
        exact dl_min hW (lx _) (lp _) h
      · exact absurd (g1.trans g2.symm) e2
    | chg a b x' y' d e1 e2 hab h e =>
      have h0 := hpos e2
      rw [ex] at e1
      rw [take_pred h0 hj] at e2
      obtain ⟨rfl, g1⟩ := tl (z := []) e1
      obtain ⟨rfl, g2⟩ := tl (z := []) e2
      right; right; right; left
      rcases change_fst (W := W) (x := x) (p := p) (i := i - 1) (j := j - 1) (by omega) (by omega) with ⟨e1, _⟩ | ⟨_, e2⟩
      · have hc := cc_rng hW (x[i - 1]'(by omega)) (p[j - 1]'(by omega))
        refine ⟨h0, by omega, ?_⟩
        rw [e1, g1, g2]
        have := dl_min hW (lx _) (lp _) h
        have e' : F W x p j i = d + W.cc a b := e
        rw [e']
        unfold F
        omega
      · exact absurd (g1.symm.trans (e2.trans g2)) hab
    | ins b y' d e1 h e =>
      have h0 := hpos e1
      rw [take_pred h0 hj] at e1
      obtain ⟨rfl, _⟩ := tl (z := []) e1
      right; left
      refine ⟨h0, ?_⟩
      have := dl_min hW (lx _) (lp _) h
      have e' : F W x p j i = d + W.ins := e
      rw [e']
      unfold F
      omega
    | del a x' d e1 h e =>
      rw [ex] at e1
      obtain ⟨rfl, _⟩ := tl (z := []) e1
      left
      have := dl_min hW (lx _) (lp _) h
      have e' : F W x p j i = d + W.del := e
      rw [e']
      unfold F
      omega
    | swp a b x' y' d e1 e2 hab h e =>
      have l1 : 1 < i := by have := congrArg List.length e1; simp at this; omega
      have l2 : 1 < j := by have := congrArg List.length e2; simp at this; omega
      rw [take_pred2 l1 hi] at e1
      rw [take_pred2 l2 hj] at e2
      have two : ∀ {u v : List UInt8} {a b c d : UInt8}, u ++ [a, b] = v ++ [c, d] → u = v ∧ a = c ∧ b = d := fun {u v a b c d} h => by
        have := List.append_inj' h rfl
        exact ⟨this.1, by simpa using this.2⟩
      obtain ⟨rfl, q2, q1⟩ := two e1
      obtain ⟨rfl, q4, q3⟩ := two e2
      right; right; right; right
      rcases swap_fst (W := W) (x := x) (p := p) (i := i - 2) (j := j - 2) (by omega) (by omega) with ⟨e1, _⟩ | ⟨_, e2⟩
      · refine ⟨l1, l2, by omega, ?_⟩
        rw [e1]
        have := dl_min hW (lx _) (lp _) h
        have e' : F W x p j i = d + W.swp := e
        rw [e']
        unfold F
        omega
      · refine absurd ⟨?_, ?_, ?_⟩ e2
        · rw [q2, q4]; exact hab
        · have g : p[j - 2 + 1]'(by omega) = p[j - 1]'(by omega) := by congr 1; omega
          rw [g]
          exact q2.trans q3.symm
        · have g : x[i - 2 + 1]'(by omega) = x[i - 1]'(by omega) := by congr 1; omega
          rw [g]
          exact q1.trans q4.symm
  unfold fstep
  rw [if_neg (by omega)]
  have bj := hb j i
  have cdel : atv (F W x p j (i - 1)) W.del = F W x p j (i - 1) + W.del := by unfold atv; rw [if_neg (by omega)]
  have cins : atv (F W x p (j - 1) i) W.ins = F W x p (j - 1) i + W.ins := by unfold atv; rw [if_neg (by omega)]
  have csame : ((same x p (i - 1) (j - 1)).1 < 0 ∧ atv (F W x p (j - 1) (i - 1)) (same x p (i - 1) (j - 1)).1 = big) ∨ (0 ≤ (same x p (i - 1) (j - 1)).1 ∧ atv (F W x p (j - 1) (i - 1)) (same x p (i - 1) (j - 1)).1 = F W x p (j - 1) (i - 1) + (same x p (i - 1) (j - 1)).1) := by
    unfold atv; split <;> omega
  have cchg : ((change W x p (i - 1) (j - 1)).1 < 0 ∧ atv (F W x p (j - 1) (i - 1)) (change W x p (i - 1) (j - 1)).1 = big) ∨ (0 ≤ (change W x p (i - 1) (j - 1)).1 ∧ atv (F W x p (j - 1) (i - 1)) (change W x p (i - 1) (j - 1)).1 = F W x p (j - 1) (i - 1) + (change W x p (i - 1) (j - 1)).1) := by
    unfold atv; split <;> omega
  have cswp : ((swap W x p (i - 2) (j - 2)).1 < 0 ∧ atv (F W x p (j - 2) (i - 2)) (swap W x p (i - 2) (j - 2)).1 = big) ∨ (0 ≤ (swap W x p (i - 2) (j - 2)).1 ∧ atv (F W x p (j - 2) (i - 2)) (swap W x p (i - 2) (j - 2)).1 = F W x p (j - 2) (i - 2) + (swap W x p (i - 2) (j - 2)).1) := by
    unfold atv; split <;> omega
  have hbig : big = 1099511627776 := rfl
  rw [cdel, cins]
  generalize atv (F W x p (j - 1) (i - 1)) (same x p (i - 1) (j - 1)).1 = vs at *
  generalize atv (F W x p (j - 1) (i - 1)) (change W x p (i - 1) (j - 1)).1 = vc at *
  generalize atv (F W x p (j - 2) (i - 2)) (swap W x p (i - 2) (j - 2)).1 = vw at *
  generalize (same x p (i - 1) (j - 1)).1 = ss at *
  generalize (change W x p (i - 1) (j - 1)).1 = sc at *
  generalize (swap W x p (i - 2) (j - 2)).1 = sw at *
  generalize F W x p (j - 1) (i - 1) = f11 at *
  generalize F W x p (j - 2) (i - 2) = f22 at *
  generalize F W x p j (i - 1) = f01 at *
  generalize F W x p (j - 1) i = f10 at *
  generalize F W x p j i = f00 at *
  have ks : 0 < j → f00 ≤ vs := fun h => by have := upS h; omega
  have kc : 0 < j → f00 ≤ vc := fun h => by have := upC h; omega
  have kw : 1 < i → 1 < j → f00 ≤ vw := fun h1 h2 => by have := upW h1 h2; omega
  have low' : f01 + W.del = f00 ∨ (0 < j ∧ f10 + W.ins = f00) ∨ (0 < j ∧ vs = f00) ∨ (0 < j ∧ vc = f00) ∨ (1 < i ∧ 1 < j ∧ vw = f00) := by
    rcases low with h | ⟨h0, h⟩ | ⟨h0, h1, h⟩ | ⟨h0, h1, h⟩ | ⟨h0, h2, h1, h⟩
    · left; omega
    · right; left; have := upI h0; omega
    · right; right; left; have := ks h0; omega
    · right; right; right; left; have := kc h0; omega
    · right; right; right; right; have := kw h0 h2; omega
  clear csame cchg cswp upS upC upW low
  dsimp only
  by_cases hj0 : 0 < j
  · have q1 := upI hj0
    have q2 := ks hj0
    have q3 := kc hj0
    rw [if_pos hj0]
    by_cases hw : 1 < i ∧ 1 < j
    · have q4 := kw hw.1 hw.2
      rw [if_pos hw]
      rcases low' with h | ⟨_, h⟩ | ⟨_, h⟩ | ⟨_, h⟩ | ⟨_, _, h⟩ <;> omega
    · rw [if_neg hw]
      rcases low' with h | ⟨_, h⟩ | ⟨_, h⟩ | ⟨_, h⟩ | ⟨h1, h2, h⟩
      · omega
      · omega
      · omega
      · omega
      · exact absurd ⟨h1, h2⟩ hw
  · rw [if_neg hj0, if_neg (by omega)]
    omega
end Wt
end Go.Proofs.Ytnpdhbagfkilkaa
