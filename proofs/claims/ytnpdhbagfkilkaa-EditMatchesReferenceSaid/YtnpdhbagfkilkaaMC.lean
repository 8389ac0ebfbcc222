/- Several texts as one, in build order. -/
import Derived.Test.YtnpdhbagfkilkaaMB
import Derived.Test.YtnpdhbagfkilkaaMA
import Derived.OwnWalk
import Derived.Maps.AppendAt
import Derived.Deep.DeepCutAuto
import Derived.Deep.DrawnRows
import Derived.StillTail
import Derived.Deep.Quiet
import Derived.BigQuiet
/- The plain side: the tables of beginnings that Ahead fills. -/
set_option linter.unusedVariables false
set_option linter.unusedSimpArgs false
namespace Go.Proofs.Ytnpdhbagfkilkaa
namespace Wt

def big : Int := 1099511627776
/-- what Ahead's closure answers for a place that is there: the number there and the cost, or a great number -/
def atv (t cost : Int) : Int := if cost < 0 then big else t + cost
/-- one number of Ahead's table out of those before -/
def fstep (W : Wt) (x p : List UInt8) (T : Nat → Nat → Int) (j i : Nat) : Int :=
  if i = 0 then j * W.ins else
  let b0 := atv (T j (i - 1)) W.del
  let b1 := if 0 < j then min (min (min b0 (atv (T (j - 1) i) W.ins)) (atv (T (j - 1) (i - 1)) (same x p (i - 1) (j - 1)).1)) (atv (T (j - 1) (i - 1)) (change W x p (i - 1) (j - 1)).1) else b0
  if 1 < i ∧ 1 < j then min b1 (atv (T (j - 2) (i - 2)) (swap W x p (i - 2) (j - 2)).1) else b1
/-- the distance of the first i bytes of x and the first j of p -/
def F (W : Wt) (x p : List UInt8) (j i : Nat) : Int := dl W (x.take i) (p.take j)

theorem take_succ' {x : List UInt8} {i : Nat} (h : i < x.length) : x.take (i + 1) = x.take i ++ [x[i]] := List.take_succ_eq_append_getElem h
theorem take_pred {x : List UInt8} {i : Nat} (h0 : 0 < i) (h : i ≤ x.length) : x.take i = x.take (i - 1) ++ [x[i - 1]'(by omega)] := by
  have := take_succ' (x := x) (i := i - 1) (by omega)
  rwa [show i - 1 + 1 = i by omega] at this
theorem take_pred2 {x : List UInt8} {i : Nat} (h1 : 1 < i) (h : i ≤ x.length) : x.take i = x.take (i - 2) ++ [x[i - 2]'(by omega), x[i - 1]'(by omega)] := by
  obtain ⟨k, rfl⟩ : ∃ k, i = k + 2 := ⟨i - 2, by omega⟩
  have e1 := take_succ' (x := x) (i := k + 1) (by omega)
  have e2 := take_succ' (x := x) (i := k) (by omega)
  rw [e2, List.append_assoc] at e1
  exact e1
theorem len_take {x : List UInt8} (hx : x.length ≤ 120) (i : Nat) : (x.take i).length ≤ 120 := by simp; omega

theorem F_lo {W : Wt} (hW : W.valid = true) {x p : List UInt8} (hx : x.length ≤ 120) (hp : p.length ≤ 120) (j i : Nat) : 0 ≤ F W x p j i := dl_lo hW (len_take hx i) (len_take hp j)
theorem F_hi {W : Wt} (hW : W.valid = true) {x p : List UInt8} (hx : x.length ≤ 120) (hp : p.length ≤ 120) (j i : Nat) : F W x p j i ≤ 1000000 := dl_hi hW (len_take hx i) (len_take hp j)

theorem same_fst {x p : List UInt8} {i j : Nat} (hi : i < x.length) (hj : j < p.length) : ((same x p i j).1 = 0 ∧ x[i] = p[j]) ∨ ((same x p i j).1 = -1 ∧ x[i] ≠ p[j]) := by
  unfold same
  by_cases h : x[i] = p[j]
  · left; rw [if_pos ⟨hi, hj, (at_inj hi hj).2 h⟩]; exact ⟨rfl, h⟩
  · right; rw [if_neg (fun hc => h ((at_inj hi hj).1 hc.2.2))]; exact ⟨rfl, h⟩
theorem change_fst {W : Wt} {x p : List UInt8} {i j : Nat} (hi : i < x.length) (hj : j < p.length) : ((change W x p i j).1 = W.cc x[i] p[j] ∧ x[i] ≠ p[j]) ∨ ((change W x p i j).1 = -1 ∧ x[i] = p[j]) := by
  unfold change
  by_cases h : x[i] = p[j]
  · right; rw [if_neg (fun hc => hc.2.2 ((at_inj hi hj).2 h))]; exact ⟨rfl, h⟩
  · left
    rw [if_pos ⟨hi, hj, fun hc => h ((at_inj hi hj).1 hc)⟩, at_eq hi, at_eq hj]; exact ⟨rfl, h⟩
theorem swap_fst {W : Wt} {x p : List UInt8} {i j : Nat} (hi : i + 1 < x.length) (hj : j + 1 < p.length) :
    ((swap W x p i j).1 = W.swp ∧ x[i] ≠ p[j] ∧ x[i] = p[j + 1] ∧ x[i + 1] = p[j]) ∨ ((swap W x p i j).1 = -1 ∧ ¬ (x[i] ≠ p[j] ∧ x[i] = p[j + 1] ∧ x[i + 1] = p[j])) := by
  unfold swap
  by_cases h : x[i] ≠ p[j] ∧ x[i] = p[j + 1] ∧ x[i + 1] = p[j]
  · left
    rw [if_pos ⟨hi, hj, fun hc => h.1 ((at_inj (by omega) (by omega)).1 hc), (at_inj (by omega) hj).2 h.2.1, (at_inj hi (by omega)).2 h.2.2⟩]; exact ⟨rfl, h⟩
  · right
    rw [if_neg (fun hc => h ⟨fun e => hc.2.2.1 ((at_inj (by omega) (by omega)).2 e), (at_inj (by omega) hj).1 hc.2.2.2.1, (at_inj hi (by omega)).1 hc.2.2.2.2⟩)]; exact ⟨rfl, h⟩
theorem cc_rng {W : Wt} (hW : W.valid = true) (a b : UInt8) : 0 ≤ W.cc a b ∧ W.cc a b ≤ 1000 := by
  have hv := valid_num hW
  unfold cc
  cases hl : look W.near (a.toNat : Int) (b.toNat : Int) with
  | none => simp; omega
  | some c => simpa using look_le hW hl

theorem F_first {W : Wt} (hW : W.valid = true) {x p : List UInt8} (hx : x.length ≤ 120) (hp : p.length ≤ 120) {j : Nat} (hj : j ≤ p.length) : F W x p j 0 = j * W.ins := by
  have h1 : F W x p j 0 ≤ j * W.ins := by
    have := dl_min hW (len_take hx 0) (len_take hp j) (c := W.ins * ((p.take j).length : Int)) (Al.inss W (p.take j))
    have e : W.ins * ((p.take j).length : Int) = j * W.ins := by rw [List.length_take, Nat.min_eq_left hj, Int.mul_comm]
    rw [e] at this
    exact this
  have h2 : ∀ (q : List UInt8) (c : Int), Al W [] q c → W.ins * q.length ≤ c := by
    intro q c h
    generalize hn : ([] : List UInt8) = n at h
    induction h with
    | nil => simp
    | same => cases hn
    | chg => cases hn
    | ins b _ ih => have := ih hn; simp [Int.mul_add]; omega
    | del => cases hn
    | swp => cases hn
  have h3 := h2 _ _ (dl_al hW (len_take hx 0) (len_take hp j))
  have e : W.ins * ((p.take j).length : Int) = j * W.ins := by rw [List.length_take, Nat.min_eq_left hj, Int.mul_comm]
  unfold F at h1 ⊢
  simp only [List.take_zero] at h1 h3 ⊢
  omega

/-- the tables of beginnings: each number out of those before -/
theorem F_rec {W : Wt} (hW : W.valid = true) {x p : List UInt8} (hx : x.length ≤ 120) (hp : p.length ≤ 120) {j i : Nat} (hj : j ≤ p.length) (hi : i ≤ x.length) : fstep W x p (F W x p) j i = F W x p j i := by
  have hv := valid_num hW
  rcases Nat.eq_zero_or_pos i with rfl | hi0
  · rw [F_first hW hx hp hj]; simp [fstep]
  have lx := len_take hx
  have lp := len_take hp
  have hb := F_hi hW hx hp
  have hl := F_lo hW hx hp
  have ex := take_pred hi0 hi
  -- each way is one that the table looks at
  have up0 : F W x p j i ≤ F W x p j (i - 1) + W.del := by
    refine dl_min hW (lx i) (lp j) ?_
    rw [ex]
    have := (dl_al hW (lx (i - 1)) (lp j)).app (Al.del (x[i - 1]'(by omega)) Al.nil)
    simpa [F] using this
  have upI : 0 < j → F W x p j i ≤ F W x p (j - 1) i + W.ins := fun h => by
    refine dl_min hW (lx i) (lp j) ?_
    have ep := take_pred h hj
    rw [ep]
    have := (dl_al hW (lx i) (lp (j - 1))).app (Al.ins (p[j - 1]'(by omega)) Al.nil)
    simpa [F] using this
  have upS : 0 < j → 0 ≤ (same x p (i - 1) (j - 1)).1 → F W x p j i ≤ F W x p (j - 1) (i - 1) + (same x p (i - 1) (j - 1)).1 := fun h h0 => by
    rcases same_fst (x := x) (p := p) (i := i - 1) (j := j - 1) (by omega) (by omega) with ⟨e1, e2⟩ | ⟨e1, _⟩
    · rw [e1]
      refine dl_min hW (lx i) (lp j) ?_
      have ep := take_pred h hj
      rw [ep, ex, e2]
      exact (dl_al hW (lx (i - 1)) (lp (j - 1))).app (Al.same _ Al.nil)
    · omega
  have upC : 0 < j → 0 ≤ (change W x p (i - 1) (j - 1)).1 → F W x p j i ≤ F W x p (j - 1) (i - 1) + (change W x p (i - 1) (j - 1)).1 := fun h h0 => by
    rcases change_fst (W := W) (x := x) (p := p) (i := i - 1) (j := j - 1) (by omega) (by omega) with ⟨e1, e2⟩ | ⟨e1, _⟩
    · rw [e1]
      refine dl_min hW (lx i) (lp j) ?_
      have ep := take_pred h hj
      rw [ep, ex]
      have := (dl_al hW (lx (i - 1)) (lp (j - 1))).app (Al.chg _ _ e2 Al.nil)
      simpa [F] using this
    · omega
  have upW : 1 < i → 1 < j → 0 ≤ (swap W x p (i - 2) (j - 2)).1 → F W x p j i ≤ F W x p (j - 2) (i - 2) + (swap W x p (i - 2) (j - 2)).1 := fun h1 h2 h0 => by
    rcases swap_fst (W := W) (x := x) (p := p) (i := i - 2) (j := j - 2) (by omega) (by omega) with ⟨e1, e2, e3, e4⟩ | ⟨e1, _⟩
    · rw [e1]
      refine dl_min hW (lx i) (lp j) ?_
      have g3 : p[j - 2 + 1]'(by omega) = p[j - 1]'(by omega) := by congr 1; omega
      have g4 : x[i - 2 + 1]'(by omega) = x[i - 1]'(by omega) := by congr 1; omega
      rw [g3] at e3
      rw [g4] at e4
      rw [take_pred2 h1 hi, take_pred2 h2 hj, ← e3, ← e4]
      have := (dl_al hW (lx (i - 2)) (lp (j - 2))).app (Al.swp (x[i - 2]'(by omega)) (x[i - 1]'(by omega)) (by rw [e4]; exact e2) Al.nil)
      exact this.cast (by unfold F; omega)
    · omega
  -- and the least way ends in one of them
  have low : (F W x p j (i - 1) + W.del ≤ F W x p j i) ∨ (0 < j ∧ F W x p (j - 1) i + W.ins ≤ F W x p j i) ∨ (0 < j ∧ 0 ≤ (same x p (i - 1) (j - 1)).1 ∧ F W x p (j - 1) (i - 1) + (same x p (i - 1) (j - 1)).1 ≤ F W x p j i) ∨
      (0 < j ∧ 0 ≤ (change W x p (i - 1) (j - 1)).1 ∧ F W x p (j - 1) (i - 1) + (change W x p (i - 1) (j - 1)).1 ≤ F W x p j i) ∨ (1 < i ∧ 1 < j ∧ 0 ≤ (swap W x p (i - 2) (j - 2)).1 ∧ F W x p (j - 2) (i - 2) + (swap W x p (i - 2) (j - 2)).1 ≤ F W x p j i) := by
    have hpos : ∀ {q : List UInt8} {b : UInt8}, p.take j = q ++ [b] → 0 < j := fun {q b} h => by
      rcases Nat.eq_zero_or_pos j with h0 | h0
      · subst h0; simp at h
      · exact h0
    have tl : ∀ {z u v : List UInt8} {a b : UInt8}, u ++ [a] = v ++ [b] → u = v ∧ a = b := fun {z u v a b} h => by
      have := List.append_inj' h rfl
      exact ⟨this.1, by simpa using this.2⟩
    cases (dl_al hW (lx i) (lp j)).last with
    | nil e1 _ _ => have := congrArg List.length e1; simp at this; exfalso; rcases this with h | h
                    · omega
                    · subst h; simp at hi; omega
    | same a x' y' e1 e2 h =>
      have h0 := hpos e2
      rw [ex] at e1
      rw [take_pred h0 hj] at e2
      obtain ⟨rfl, g1⟩ := tl (z := []) e1
      obtain ⟨rfl, g2⟩ := tl (z := []) e2
      right; right; left
      rcases same_fst (x := x) (p := p) (i := i - 1) (j := j - 1) (by omega) (by omega) with ⟨e1, _⟩ | ⟨_, e2⟩
      · refine ⟨h0, by omega, ?_⟩
        rw [e1, Int.add_zero]
        exact dl_min hW (lx _) (lp _) h
      · exact absurd (g1.trans g2.symm) e2
    | chg a b x' y' d e1 e2 hab h e =>
      have h0 := hpos e2
      rw [ex] at e1
      rw [take_pred h0 hj] at e2
      obtain ⟨rfl, g1⟩ := tl (z := []) e1
      obtain ⟨rfl, g2⟩ := tl (z := []) e2
      right; right; right; left
      rcases change_fst (W := W) (x := x) (p := p) (i := i - 1) (j := j - 1) (by omega) (by omega) with ⟨e1, _⟩ | ⟨_, e2⟩
      · have hc := cc_rng hW (x[i - 1]'(by omega)) (p[j - 1]'(by omega))
        refine ⟨h0, by omega, ?_⟩
        rw [e1, g1, g2]
        have := dl_min hW (lx _) (lp _) h
        have e' : F W x p j i = d + W.cc a b := e
        rw [e']
        unfold F
        omega
      · exact absurd (g1.symm.trans (e2.trans g2)) hab
    | ins b y' d e1 h e =>
      have h0 := hpos e1
      rw [take_pred h0 hj] at e1
      obtain ⟨rfl, _⟩ := tl (z := []) e1
      right; left
      refine ⟨h0, ?_⟩
      have := dl_min hW (lx _) (lp _) h
      have e' : F W x p j i = d + W.ins := e
      rw [e']
      unfold F
      omega
    | del a x' d e1 h e =>
      rw [ex] at e1
      obtain ⟨rfl, _⟩ := tl (z := []) e1
      left
      have := dl_min hW (lx _) (lp _) h
      have e' : F W x p j i = d + W.del := e
      rw [e']
      unfold F
      omega
    | swp a b x' y' d e1 e2 hab h e =>
      have l1 : 1 < i := by have := congrArg List.length e1; simp at this; omega
      have l2 : 1 < j := by have := congrArg List.length e2; simp at this; omega
      rw [take_pred2 l1 hi] at e1
      rw [take_pred2 l2 hj] at e2
      have two : ∀ {u v : List UInt8} {a b c d : UInt8}, u ++ [a, b] = v ++ [c, d] → u = v ∧ a = c ∧ b = d := fun {u v a b c d} h => by
        have := List.append_inj' h rfl
        exact ⟨this.1, by simpa using this.2⟩
      obtain ⟨rfl, q2, q1⟩ := two e1
      obtain ⟨rfl, q4, q3⟩ := two e2
      right; right; right; right
      rcases swap_fst (W := W) (x := x) (p := p) (i := i - 2) (j := j - 2) (by omega) (by omega) with ⟨e1, _⟩ | ⟨_, e2⟩
      · refine ⟨l1, l2, by omega, ?_⟩
        rw [e1]
        have := dl_min hW (lx _) (lp _) h
        have e' : F W x p j i = d + W.swp := e
        rw [e']
        unfold F
        omega
      · refine absurd ⟨?_, ?_, ?_⟩ e2
        · rw [q2, q4]; exact hab
        · have g : p[j - 2 + 1]'(by omega) = p[j - 1]'(by omega) := by congr 1; omega
          rw [g]
          exact q2.trans q3.symm
        · have g : x[i - 2 + 1]'(by omega) = x[i - 1]'(by omega) := by congr 1; omega
          rw [g]
          exact q1.trans q4.symm
  unfold fstep
  rw [if_neg (by omega)]
  have bj := hb j i
  have cdel : atv (F W x p j (i - 1)) W.del = F W x p j (i - 1) + W.del := by unfold atv; rw [if_neg (by omega)]
  have cins : atv (F W x p (j - 1) i) W.ins = F W x p (j - 1) i + W.ins := by unfold atv; rw [if_neg (by omega)]
  have csame : ((same x p (i - 1) (j - 1)).1 < 0 ∧ atv (F W x p (j - 1) (i - 1)) (same x p (i - 1) (j - 1)).1 = big) ∨ (0 ≤ (same x p (i - 1) (j - 1)).1 ∧ atv (F W x p (j - 1) (i - 1)) (same x p (i - 1) (j - 1)).1 = F W x p (j - 1) (i - 1) + (same x p (i - 1) (j - 1)).1) := by
    unfold atv; split <;> omega
  have cchg : ((change W x p (i - 1) (j - 1)).1 < 0 ∧ atv (F W x p (j - 1) (i - 1)) (change W x p (i - 1) (j - 1)).1 = big) ∨ (0 ≤ (change W x p (i - 1) (j - 1)).1 ∧ atv (F W x p (j - 1) (i - 1)) (change W x p (i - 1) (j - 1)).1 = F W x p (j - 1) (i - 1) + (change W x p (i - 1) (j - 1)).1) := by
    unfold atv; split <;> omega
  have cswp : ((swap W x p (i - 2) (j - 2)).1 < 0 ∧ atv (F W x p (j - 2) (i - 2)) (swap W x p (i - 2) (j - 2)).1 = big) ∨ (0 ≤ (swap W x p (i - 2) (j - 2)).1 ∧ atv (F W x p (j - 2) (i - 2)) (swap W x p (i - 2) (j - 2)).1 = F W x p (j - 2) (i - 2) + (swap W x p (i - 2) (j - 2)).1) := by
    unfold atv; split <;> omega
  have hbig : big = 1099511627776 := rfl
  rw [cdel, cins]
  generalize atv (F W x p (j - 1) (i - 1)) (same x p (i - 1) (j - 1)).1 = vs at *
  generalize atv (F W x p (j - 1) (i - 1)) (change W x p (i - 1) (j - 1)).1 = vc at *
  generalize atv (F W x p (j - 2) (i - 2)) (swap W x p (i - 2) (j - 2)).1 = vw at *
  generalize (same x p (i - 1) (j - 1)).1 = ss at *
  generalize (change W x p (i - 1) (j - 1)).1 = sc at *
  generalize (swap W x p (i - 2) (j - 2)).1 = sw at *
  generalize F W x p (j - 1) (i - 1) = f11 at *
  generalize F W x p (j - 2) (i - 2) = f22 at *
  generalize F W x p j (i - 1) = f01 at *
  generalize F W x p (j - 1) i = f10 at *
  generalize F W x p j i = f00 at *
  have ks : 0 < j → f00 ≤ vs := fun h => by have := upS h; omega
  have kc : 0 < j → f00 ≤ vc := fun h => by have := upC h; omega
  have kw : 1 < i → 1 < j → f00 ≤ vw := fun h1 h2 => by have := upW h1 h2; omega
  have low' : f01 + W.del = f00 ∨ (0 < j ∧ f10 + W.ins = f00) ∨ (0 < j ∧ vs = f00) ∨ (0 < j ∧ vc = f00) ∨ (1 < i ∧ 1 < j ∧ vw = f00) := by
    rcases low with h | ⟨h0, h⟩ | ⟨h0, h1, h⟩ | ⟨h0, h1, h⟩ | ⟨h0, h2, h1, h⟩
    · left; omega
    · right; left; have := upI h0; omega
    · right; right; left; have := ks h0; omega
    · right; right; right; left; have := kc h0; omega
    · right; right; right; right; have := kw h0 h2; omega
  clear csame cchg cswp upS upC upW low
  dsimp only
  by_cases hj0 : 0 < j
  · have q1 := upI hj0
    have q2 := ks hj0
    have q3 := kc hj0
    rw [if_pos hj0]
    by_cases hw : 1 < i ∧ 1 < j
    · have q4 := kw hw.1 hw.2
      rw [if_pos hw]
      rcases low' with h | ⟨_, h⟩ | ⟨_, h⟩ | ⟨_, h⟩ | ⟨_, _, h⟩ <;> omega
    · rw [if_neg hw]
      rcases low' with h | ⟨_, h⟩ | ⟨_, h⟩ | ⟨_, h⟩ | ⟨h1, h2, h⟩
      · omega
      · omega
      · omega
      · omega
      · exact absurd ⟨h1, h2⟩ hw
  · rw [if_neg hj0, if_neg (by omega)]
    omega
end Wt
end Go.Proofs.Ytnpdhbagfkilkaa

/- Walks: Ahead's closure, least. -/
set_option linter.unusedVariables false
set_option linter.unusedSimpArgs false
namespace Go.Proofs.Ytnpdhbagfkilkaa
open Go.RowKit

theorem ret_i {k : IntKind} {a b : Int} (h : a = b) : Ending.returned (.int k a) = .returned (.int k b) := by rw [h]

set_option maxHeartbeats 400000 in
theorem at_any (iz jz c v : Int) (i j R T n m Bj : Nat) (cn cm : Nat) (w : World) (hi : iz = i) (hj : jz = j) (hin : i < m) (hjn : j < n)
    (h1 : w.cell? ⟨R, 0, none⟩ = some (.slice (some ⟨T, 0, none⟩) n cn)) (h2 : w.cell? ⟨T, j, none⟩ = some (.slice (some ⟨Bj, 0, none⟩) m cm)) (h3 : w.cell? ⟨Bj, i, none⟩ = some (.int .i64 v))
    (hv : 0 ≤ v ∧ v ≤ 1000000) (hc : -1000 ≤ c ∧ c ≤ 1000) (hs : n ≤ 1000 ∧ m ≤ 1000) :
    Calls Try.prog 33 #[.int .i64 iz, .int .i64 jz, .int .i64 c, .pointer (some ⟨R, 0, none⟩)] w fun e w' => e = .returned (.int .i64 (Wt.atv v c)) ∧ w = w' := by
  subst hi hj
  obtain ⟨v1, v2⟩ := hv
  obtain ⟨c1, c2⟩ := hc
  obtain ⟨s1, s2⟩ := hs
  by_cases hneg : c < 0
  · have HF : Hid (Wt.atv v c = 1099511627776) := by show _ = _; simp [Wt.atv, hneg, Wt.big]
    go_enter Try.func33, Try.ntmps33
    go_wp2
    go_ret
    exact ⟨ret_i HF.out.symm, rfl⟩
  · have HF : Hid (Wt.atv v c = v + c) := by show _ = _; simp [Wt.atv, hneg]
    go_enter Try.func33, Try.ntmps33
    go_wp2
    go_ret
    exact ⟨ret_i HF.out.symm, rfl⟩

set_option maxHeartbeats 400000 in
theorem least_any (b n c : Nat) (zs : List Int) (w : World) (hn : 0 < n) (hz : zs.length = n) (hbig : n ≤ 1000) (hc : ∀ j, j < zs.length → w.cell? ⟨b, 0 + j, none⟩ = some (.int .i64 (zs.getD j 0))) :
    Calls Try.prog 34 #[.slice (some ⟨b, 0, none⟩) n c] w fun e w' => e = .returned (.int .i64 (Lib.minOf zs)) ∧ w = w' := by
  have HC := hide hc
  have HZ := hide hz
  clear hc hz
  go_enter Try.func34, Try.ntmps34
  go_wp2_with (go_at_call 40; refine (Try.slices_Min_int b 0 n c zs w hn (by rw [HZ.out]; exact Nat.le_refl _) (by omega) HC.out).mono ?_; rintro e w1 ⟨rfl, hw⟩; have HW := hide hw; clear hw)
  go_ret
  exact ⟨ret_i (by rw [List.take_of_length_le (by rw [HZ.out]; exact Nat.le_refl _)]), HW.out.symm⟩
end Go.Proofs.Ytnpdhbagfkilkaa

/- Walks: edit.Ahead. -/
set_option linter.unusedVariables false
set_option linter.unusedSimpArgs false
namespace Go.Proofs.Ytnpdhbagfkilkaa
open Go.RowKit

/-! rows that are laid one by one -/
def slotsB (B : Nat → Nat) (n m k : Nat) : Array Value := ((List.range n).map fun i => if i < k then Value.slice (some ⟨B i, 0, none⟩) m m else .slice none 0 0).toArray
theorem slotsB_get {B : Nat → Nat} {n m k i : Nat} (h : i < n) : (slotsB B n m k)[i]? = some (if i < k then Value.slice (some ⟨B i, 0, none⟩) m m else .slice none 0 0) := by
  simp [slotsB, h]
theorem slotsB_set {B : Nat → Nat} {n m k b : Nat} : (slotsB B n m k).setIfInBounds k (.slice (some ⟨b, 0, none⟩) m m) = slotsB (fun j => if j = k then b else B j) n m (k + 1) := by
  apply Array.ext_getElem?
  intro i
  simp only [slotsB, Array.getElem?_setIfInBounds, List.getElem?_toArray, List.getElem?_map, List.size_toArray, List.length_map, List.length_range]
  by_cases h : k = i
  · subst h
    by_cases hk : k < n <;> simp [hk, List.getElem?_range]
  · by_cases hk : i < n
    · by_cases h1 : i < k
      · simp [h, hk, h1, List.getElem?_range, show i < k + 1 by omega, show i ≠ k by omega]
      · simp [h, hk, h1, List.getElem?_range, show ¬ i < k + 1 by omega]
    · simp [h, hk, List.getElem?_range]
theorem slotsB_made (B : Nat → Nat) (n m : Nat) : madeCells #[Value.slice none 0 0] n = slotsB B n m 0 := by
  apply Array.ext_getElem?
  intro i
  simp only [madeCells, slotsB, Array.getElem?_map, List.getElem?_toArray, List.getElem?_map]
  by_cases h : i < n
  · simp [h, Nat.mod_one]
  · simp [h]
structure Rws (w : World) (R T n m k : Nat) (B : Nat → Nat) (f : Nat → Nat → Int) : Prop where
  var : Blk w R 46 #[.slice (some ⟨T, 0, none⟩) n n]
  top : Blk w T 25 (slotsB B n m k)
  row : ∀ j, j < k → Blk w (B j) 3 (rowArr (f j) m)
  sep : ∀ j, j < k → R < B j ∧ ∀ j', j' < k → B j' = B j → j' = j
  tr : T < R
theorem Rws.slot {w : World} {R T n m k : Nat} {B : Nat → Nat} {f : Nat → Nat → Int} (h : Rws w R T n m k B f) {j : Nat} (hj : j < k) (hn : j < n) : w.cell? ⟨T, j, none⟩ = some (.slice (some ⟨B j, 0, none⟩) m m) := by
  rw [h.top.cell, slotsB_get hn, if_pos hj]
theorem Rws.cell {w : World} {R T n m k : Nat} {B : Nat → Nat} {f : Nat → Nat → Int} (h : Rws w R T n m k B f) {j i : Nat} (hj : j < k) (hi : i < m) : w.cell? ⟨B j, i, none⟩ = some (.int .i64 (f j i)) := by
  rw [(h.row j hj).cell, rowArr_get _ hi]
theorem Rws.below {w w' : World} {R T n m k : Nat} {B : Nat → Nat} {f : Nat → Nat → Int} (h : Rws w R T n m k B f) (hb : Below w.heap.size w w') : Rws w' R T n m k B f :=
  ⟨h.var.below hb h.var.lt, h.top.below hb h.top.lt, fun j hj => (h.row j hj).below hb (h.row j hj).lt, h.sep, h.tr⟩
theorem Rws.drewN {w : World} {R T n m k : Nat} {B : Nat → Nat} {f : Nat → Nat → Int} (h : Rws w R T n m k B f) (q : Nat) : Rws (w.drewN q) R T n m k B f :=
  ⟨h.var, h.top, h.row, h.sep, h.tr⟩
theorem Rws.newRow {w : World} {R T n m k : Nat} {B : Nat → Nat} {f : Nat → Nat → Int} (h : Rws w R T n m k B f) :
    Rws ((w.setCell ⟨T, k, none⟩ (.slice (some ⟨w.heap.size, 0, none⟩) m m)).alloc (.cells (madeCells #[.int .i64 0] m) 3)) R T n m (k + 1) (fun j => if j = k then w.heap.size else B j) (fun j i => if j = k then 0 else f j i) := by
  have hR := h.var.lt
  have hT := h.tr
  have hsz : (w.setCell ⟨T, k, none⟩ (.slice (some ⟨w.heap.size, 0, none⟩) m m)).heap.size = w.heap.size := by simp [World.setCell]
  refine ⟨(h.var.far (by show R ≠ T; omega) _).alloc _, ?_, fun j hj => ?_, fun j hj => ?_, hT⟩
  · have := (h.top.set_ k (.slice (some ⟨w.heap.size, 0, none⟩) m m)).alloc (.cells (madeCells #[.int .i64 0] m) 3)
    rw [slotsB_set] at this
    exact this
  · by_cases e : j = k
    · subst e
      simp only [if_true]
      have := Blk.new (w.setCell ⟨T, j, none⟩ (.slice (some ⟨w.heap.size, 0, none⟩) m m)) 3 (madeCells #[.int .i64 0] m)
      rw [hsz, rowArr_made] at this
      rw [rowArr_made]
      exact this
    · simp only [if_neg e]
      have hs := (h.sep j (by omega)).1
      exact ((h.row j (by omega)).far (by show B j ≠ T; omega) _).alloc _
  · by_cases e : j = k
    · subst e
      simp only [if_true]
      refine ⟨hR, fun j' hj' e' => ?_⟩
      by_cases e2 : j' = j
      · exact e2
      · simp only [if_neg e2] at e'
        have := (h.row j' (by omega)).lt
        omega
    · simp only [if_neg e]
      refine ⟨(h.sep j (by omega)).1, fun j' hj' e' => ?_⟩
      by_cases e2 : j' = k
      · simp only [if_pos e2] at e'
        have := (h.row j (by omega)).lt
        omega
      · simp only [if_neg e2] at e'
        exact (h.sep j (by omega)).2 j' (by omega) e'
theorem Rws.put {w : World} {R T n m k : Nat} {B : Nat → Nat} {f : Nat → Nat → Int} (h : Rws w R T n m k B f) {j : Nat} (hj : j < k) (i : Nat) (v : Int) :
    Rws (w.setCell ⟨B j, i, none⟩ (.int .i64 v)) R T n m k B (fun p q => if p = j ∧ q = i then v else f p q) := by
  have hs := (h.sep j hj).1
  have hT := h.tr
  refine ⟨h.var.far (by show R ≠ B j; omega) _, h.top.far (by show T ≠ B j; omega) _, fun p hp => ?_, h.sep, hT⟩
  by_cases e : p = j
  · subst e
    have := (h.row p hp).set_ i (.int .i64 v)
    rw [rowArr_set] at this
    have e2 : (fun q => if p = p ∧ q = i then v else f p q) = fun q => if q = i then v else f p q := by funext q; simp
    rw [e2]
    exact this
  · have e2 : (fun q => if p = j ∧ q = i then v else f p q) = f p := by funext q; simp [e]
    rw [e2]
    exact (h.row p hp).far (by show B p ≠ B j; exact fun e' => e ((h.sep j hj).2 p hp e')) _

/-- while row j is filled up to i; all rows before are done -/
structure AhRel (wr wo : World) (R T : Nat) (W : Wt) (x p : ByteArray) (j i : Nat) (B : Nat → Nat) (f : Nat → Nat → Int) : Prop where
  rws : Rws wr R T (p.size + 1) (x.size + 1) (j + 1) B f
  done : ∀ j' i', i' ≤ x.size → (j' < j ∨ (j' = j ∧ i' < i)) → f j' i' = Wt.F W x.data.toList p.data.toList j' i'
  bel : Below wo.heap.size wo wr
  base : wo.heap.size ≤ T
def AhI (wr wo : World) (R T : Nat) (W : Wt) (x p : ByteArray) (j i : Nat) : Prop := ∃ B f, AhRel wr wo R T W x p j i B f
structure AhTop (wr wo : World) (R T : Nat) (W : Wt) (x p : ByteArray) (k : Nat) (B : Nat → Nat) (f : Nat → Nat → Int) : Prop where
  rws : Rws wr R T (p.size + 1) (x.size + 1) k B f
  done : ∀ j' i', i' ≤ x.size → j' < k → f j' i' = Wt.F W x.data.toList p.data.toList j' i'
  bel : Below wo.heap.size wo wr
  base : wo.heap.size ≤ T
def AhJ (wr wo : World) (R T : Nat) (W : Wt) (x p : ByteArray) (k : Nat) : Prop := ∃ B f, AhTop wr wo R T W x p k B f

theorem AhJ.start (wo : World) (W : Wt) (x p : ByteArray) :
    AhJ ((wo.alloc (.cells (madeCells #[.slice none 0 0] (p.size + 1)) 25)).alloc (.cells #[.slice (some ⟨wo.heap.size, 0, none⟩) (p.size + 1) (p.size + 1)] 46)) wo (wo.heap.size + 1) wo.heap.size W x p 0 := by
  refine ⟨fun _ => 0, fun _ _ => 0, ⟨heap_alloc2_new _ _ _, ?_, fun j hj => by omega, fun j hj => by omega, by omega⟩, fun _ _ _ h => by omega, ((Below.refl _ _).alloc (Nat.le_refl _) _).alloc (by simp) _, Nat.le_refl _⟩
  have := slotsB_made (fun _ => 0) (p.size + 1) (x.size + 1)
  rw [← this]
  exact heap_alloc2_old _ _ _
theorem AhJ.row {wr wo : World} {R T : Nat} {W : Wt} {x p : ByteArray} {k : Nat} (h : AhJ wr wo R T W x p k) (q : Nat) :
    AhI (((wr.setCell ⟨T, k, none⟩ (.slice (some ⟨wr.heap.size, 0, none⟩) (x.size + 1) (x.size + 1))).alloc (.cells (madeCells #[.int .i64 0] (x.size + 1)) 3)).drewN q) wo R T W x p k 0 := by
  obtain ⟨B, f, h⟩ := h
  have hsz : (wr.setCell ⟨T, k, none⟩ (.slice (some ⟨wr.heap.size, 0, none⟩) (x.size + 1) (x.size + 1))).heap.size = wr.heap.size := by simp [World.setCell]
  have hb1 : Below wo.heap.size wo (wr.setCell ⟨T, k, none⟩ (.slice (some ⟨wr.heap.size, 0, none⟩) (x.size + 1) (x.size + 1))) := h.bel.setCell (p := ⟨T, k, none⟩) h.base _
  refine ⟨_, _, ⟨h.rws.newRow.drewN q, fun j' i' hi' hj' => ?_, below_drewN (hb1.alloc (by rw [hsz]; exact h.bel.size) _) q, h.base⟩⟩
  have hlt : j' < k := by omega
  simp only [if_neg (show j' ≠ k by omega)]
  exact h.done j' i' hi' hlt
theorem AhI.next {wr wo : World} {R T : Nat} {W : Wt} {x p : ByteArray} {j i : Nat} {B : Nat → Nat} {f : Nat → Nat → Int} (h : AhRel wr wo R T W x p j i B f) {v : Int} (hv : v = Wt.F W x.data.toList p.data.toList j i) :
    AhI (wr.setCell ⟨B j, i, none⟩ (.int .i64 v)) wo R T W x p j (i + 1) := by
  have hs := (h.rws.sep j (by omega)).1
  have ht := h.rws.tr
  refine ⟨B, _, ⟨h.rws.put (by omega) i v, fun j' i' hi' hq => ?_, h.bel.setCell (p := ⟨B j, i, none⟩) (by have := h.base; show wo.heap.size ≤ B j; omega) _, h.base⟩⟩
  by_cases e : j' = j ∧ i' = i
  · simp only [if_pos e]; rw [e.1, e.2]; exact hv
  · simp only [if_neg e]; exact h.done j' i' hi' (by omega)
theorem AhI.done_row {wr wo : World} {R T : Nat} {W : Wt} {x p : ByteArray} {j : Nat} (h : AhI wr wo R T W x p j (x.size + 1)) : AhJ wr wo R T W x p (j + 1) := by
  obtain ⟨B, f, h⟩ := h
  exact ⟨B, f, ⟨h.rws, fun j' i' hi' hj' => h.done j' i' hi' (by omega), h.bel, h.base⟩⟩
theorem AhRel.below {wr w' wo : World} {R T : Nat} {W : Wt} {x p : ByteArray} {j i : Nat} {B : Nat → Nat} {f : Nat → Nat → Int} (h : AhRel wr wo R T W x p j i B f) (hb : Below wr.heap.size wr w') : AhRel w' wo R T W x p j i B f :=
  ⟨h.rws.below hb, h.done, h.bel.trans (hb.mono h.bel.size), h.base⟩
theorem AhRel.drewN {wr wo : World} {R T : Nat} {W : Wt} {x p : ByteArray} {j i : Nat} {B : Nat → Nat} {f : Nat → Nat → Int} (h : AhRel wr wo R T W x p j i B f) (q : Nat) : AhRel (wr.drewN q) wo R T W x p j i B f :=
  ⟨h.rws.drewN q, h.done, below_drewN h.bel q, h.base⟩
theorem AhRel.facts {wr wo : World} {R T : Nat} {W : Wt} {x p : ByteArray} {j i : Nat} {B : Nat → Nat} {f : Nat → Nat → Int} (h : AhRel wr wo R T W x p j i B f) (hj : j ≤ p.size) (hi : i ≤ x.size) :
    wr.cell? ⟨R, 0, none⟩ = some (.slice (some ⟨T, 0, none⟩) (p.size + 1) (p.size + 1)) ∧ wr.cell? ⟨T, j, none⟩ = some (.slice (some ⟨B j, 0, none⟩) (x.size + 1) (x.size + 1)) ∧ (∃ v, wr.cell? ⟨B j, i, none⟩ = some (.int .i64 v)) ∧ wr.frozen? ⟨B j, i, none⟩ = false ∧
    R < wr.heap.size ∧ T < wr.heap.size ∧ B j < wr.heap.size :=
  ⟨h.rws.var.cell 0, h.rws.slot (by omega) (by omega), ⟨_, h.rws.cell (by omega) (by omega)⟩, (h.rws.row j (by omega)).frozen _, h.rws.var.lt, h.rws.top.lt, (h.rws.row j (by omega)).lt⟩
/-- the closure's answer at a place that is done -/
theorem AhRel.at_ {wr wo : World} {R T : Nat} {W : Wt} (hW : W.valid = true) {x p : ByteArray} (hx : x.size ≤ 120) (hp : p.size ≤ 120) {j i : Nat} {B : Nat → Nat} {f : Nat → Nat → Int} (h : AhRel wr wo R T W x p j i B f) (hj : j ≤ p.size)
    {iz jz c : Int} (i' j' : Nat) (ei : iz = i') (ej : jz = j') (hi' : i' ≤ x.size) (hq : j' < j ∨ (j' = j ∧ i' < i)) (hc : -1000 ≤ c ∧ c ≤ 1000) :
    Calls Try.prog 33 #[.int .i64 iz, .int .i64 jz, .int .i64 c, .pointer (some ⟨R, 0, none⟩)] wr fun e w' => e = .returned (.int .i64 (Wt.atv (Wt.F W x.data.toList p.data.toList j' i') c)) ∧ wr = w' := by
  refine at_any iz jz c _ i' j' R T (p.size + 1) (x.size + 1) (B j') _ _ wr ei ej (by omega) (by omega) (h.rws.var.cell 0) (h.rws.slot (by omega) (by omega)) ?_ ⟨Wt.F_lo hW (by simpa using hx) (by simpa using hp) _ _, Wt.F_hi hW (by simpa using hx) (by simpa using hp) _ _⟩ hc (by omega)
  rw [h.rws.cell (by omega) (by omega), h.done j' i' hi' hq]
theorem AhTop.at_ {wr wo : World} {R T : Nat} {W : Wt} (hW : W.valid = true) {x p : ByteArray} (hx : x.size ≤ 120) (hp : p.size ≤ 120) {B : Nat → Nat} {f : Nat → Nat → Int} (h : AhTop wr wo R T W x p (p.size + 1) B f)
    {iz jz c : Int} (i' j' : Nat) (ei : iz = i') (ej : jz = j') (hi' : i' ≤ x.size) (hj' : j' ≤ p.size) (hc : -1000 ≤ c ∧ c ≤ 1000) :
    Calls Try.prog 33 #[.int .i64 iz, .int .i64 jz, .int .i64 c, .pointer (some ⟨R, 0, none⟩)] wr fun e w' => e = .returned (.int .i64 (Wt.atv (Wt.F W x.data.toList p.data.toList j' i') c)) ∧ wr = w' := by
  refine at_any iz jz c _ i' j' R T (p.size + 1) (x.size + 1) (B j') _ _ wr ei ej (by omega) (by omega) (h.rws.var.cell 0) (h.rws.slot (by omega) (by omega)) ?_ ⟨Wt.F_lo hW (by simpa using hx) (by simpa using hp) _ _, Wt.F_hi hW (by simpa using hx) (by simpa using hp) _ _⟩ hc (by omega)
  rw [h.rws.cell (by omega) (by omega), h.done j' i' hi' (by omega)]
end Go.Proofs.Ytnpdhbagfkilkaa

/- The plain side: what Ahead computes. -/
set_option linter.unusedVariables false
set_option linter.unusedSimpArgs false
namespace Go.Proofs.Ytnpdhbagfkilkaa
namespace Wt
def minL (zs : List Int) : Int := zs.foldl min (zs.headD 0)
def rowMin (W : Wt) (x p : List UInt8) : Int := minL ((List.range (x.length + 1)).map fun i => F W x p p.length i)
def over (x p : List UInt8) (i : Nat) : Bool := (at_ x i != at_ x (i + 1)) && (at_ x (i + 1) == at_ p (p.length - 1))
def afold (W : Wt) (x p : List UInt8) (k : Nat) : Int := (List.range k).foldl (fun out i => if over x p i then min out (atv (F W x p (p.length - 1) i) W.swp) else out) (rowMin W x p)
theorem afold_succ (W : Wt) (x p : List UInt8) (k : Nat) : afold W x p (k + 1) = if over x p k then min (afold W x p k) (atv (F W x p (p.length - 1) k) W.swp) else afold W x p k := by
  unfold afold
  rw [List.range_succ, List.foldl_append]
  rfl
def aheadV (W : Wt) (x p : List UInt8) : Int := if 0 < p.length then afold W x p (x.length - 1) else rowMin W x p
end Wt
def ahead (W : Wt) (x p : List UInt8) : Int := if ok3 W x p then W.aheadV x p else 0
end Go.Proofs.Ytnpdhbagfkilkaa

/- Walks: edit.Ahead, the walk. -/
set_option linter.unusedVariables false
set_option linter.unusedSimpArgs false
namespace Go.Proofs.Ytnpdhbagfkilkaa
open Go.RowKit

def AhIv (wr wo : World) (R T : Nat) (W : Wt) (x p : ByteArray) (j : Nat) (t57 : Value) : Prop := ∃ i : Nat, i ≤ x.size + 1 ∧ t57 = .int .i64 i ∧ AhI wr wo R T W x p j i
def AhJv (wr wo : World) (R T : Nat) (W : Wt) (x p : ByteArray) (t42 : Value) : Prop := ∃ j : Nat, j ≤ p.size + 1 ∧ t42 = .int .i64 j ∧ AhJ wr wo R T W x p j
theorem AhI.drewN {wr wo : World} {R T : Nat} {W : Wt} {x p : ByteArray} {j i : Nat} (h : AhI wr wo R T W x p j i) (q : Nat) : AhI (wr.drewN q) wo R T W x p j i := by
  obtain ⟨B, f, h⟩ := h
  exact ⟨B, f, h.drewN q⟩
theorem AhRel.still {wr wo : World} {R T : Nat} {W : Wt} (hW : W.valid = true) {x p : ByteArray} (hx : x.size ≤ 120) (hp : p.size ≤ 120) {j i : Nat} {B : Nat → Nat} {f : Nat → Nat → Int} (h : AhRel wr wo R T W x p j i B f) (hj : j ≤ p.size)
    {iz jz c : Int} (i' j' : Nat) (ei : iz = i') (ej : jz = j') (hi' : i' ≤ x.size) (hq : j' < j ∨ (j' = j ∧ i' < i)) (hc : -1000 ≤ c ∧ c ≤ 1000) :
    Calls Try.prog 33 #[.int .i64 iz, .int .i64 jz, .int .i64 c, .pointer (some ⟨R, 0, none⟩)] wr fun e w' => e = .returned (.int .i64 (Wt.atv (Wt.F W x.data.toList p.data.toList j' i') c)) ∧ w' = wr :=
  (h.at_ hW hx hp hj i' j' ei ej hi' hq hc).mono fun _ _ ⟨h1, h2⟩ => ⟨h1, h2.symm⟩
theorem lits_cells (W : World) (zs : List Int) (b : Nat) (hb : b = W.heap.size) : ∀ j, j < zs.length → (W.alloc (.cells (zs.map (Value.int .i64)).toArray 3)).cell? ⟨b, 0 + j, none⟩ = some (.int .i64 (zs.getD j 0)) := by
  intro j hj
  subst hb
  rw [Nat.zero_add, (Blk.new W 3 _).cell]
  simp [List.getElem?_eq_getElem hj, List.getD]
theorem lits_cells2 (W : World) (a c : Int) (b : Nat) (hb : b = W.heap.size) : ∀ j, j < [a, c].length → (W.alloc (.cells #[.int .i64 a, .int .i64 c] 3)).cell? ⟨b, 0 + j, none⟩ = some (.int .i64 ([a, c].getD j 0)) := lits_cells W [a, c] b hb
theorem lits_cells4 (W : World) (a c d e : Int) (b : Nat) (hb : b = W.heap.size) : ∀ j, j < [a, c, d, e].length → (W.alloc (.cells #[.int .i64 a, .int .i64 c, .int .i64 d, .int .i64 e] 3)).cell? ⟨b, 0 + j, none⟩ = some (.int .i64 ([a, c, d, e].getD j 0)) := lits_cells W [a, c, d, e] b hb
theorem minOf4 (a b c d : Int) : Lib.minOf [a, b, c, d] = min (min (min a b) c) d := by simp [Lib.minOf]
theorem minOf2 (a b : Int) : Lib.minOf [a, b] = min a b := by simp [Lib.minOf]
theorem wpList_field_one {P : Program} {w : World} {ops : Array Oper} {rest : List Oper} {o : Oper} {a : Act} {Q : Exit → Act → World → Prop} (hgd : o.guard = none) (ty : TypeId) (x : Operand) (k : Nat) (ho : o.op = .field ty x k) (v : Value)
    (hx : (Instr.field ty (a.eval x) k).run P w = .ok v w) (h : wpList P ops Q rest (a.put o.dst v) w) : wpList P ops Q (o :: rest) a w :=
  wpList_plain hgd fun K hK => by
    unfold Oper.wp execOp
    simp only [ho, Sem.run_bind, Sem.run_pure, Result.andThen_ok, hx]
    exact hK _ _ h
theorem least4 (b : Nat) (a c d f : Int) (w : World) (hb : b = w.heap.size) : Calls Try.prog 34 #[.slice (some ⟨b, 0, none⟩) 4 4] (w.alloc (.cells #[.int .i64 a, .int .i64 c, .int .i64 d, .int .i64 f] 3)) fun e w' => e = .returned (.int .i64 (min (min (min a c) d) f)) ∧ Below w.heap.size w w' := by
  refine (least_any b 4 4 [a, c, d, f] _ (by decide) rfl (by decide) (lits_cells4 w a c d f b hb)).mono ?_
  rintro e w' ⟨rfl, rfl⟩
  exact ⟨by rw [minOf4], (Below.refl _ _).alloc (Nat.le_refl _) _⟩
theorem least2 (b : Nat) (a c : Int) (w : World) (hb : b = w.heap.size) : Calls Try.prog 34 #[.slice (some ⟨b, 0, none⟩) 2 2] (w.alloc (.cells #[.int .i64 a, .int .i64 c] 3)) fun e w' => e = .returned (.int .i64 (min a c)) ∧ Below w.heap.size w w' := by
  refine (least_any b 2 2 [a, c] _ (by decide) rfl (by decide) (lits_cells2 w a c b hb)).mono ?_
  rintro e w' ⟨rfl, rfl⟩
  exact ⟨by rw [minOf2], (Below.refl _ _).alloc (Nat.le_refl _) _⟩
theorem same_rng (x y : List UInt8) (i j : Nat) : -1000 ≤ (Wt.same x y i j).1 ∧ (Wt.same x y i j).1 ≤ 1000 := by unfold Wt.same; split <;> simp
theorem change_rng {W : Wt} (hW : W.valid = true) (x y : List UInt8) (i j : Nat) : -1000 ≤ (Wt.change W x y i j).1 ∧ (Wt.change W x y i j).1 ≤ 1000 := by
  have hv := Wt.valid_num hW
  unfold Wt.change
  split
  · cases hl : Wt.look W.near (Wt.at_ x i) (Wt.at_ y j) with
    | none => simp; omega
    | some c => have := Wt.look_le hW hl; simp; omega
  · simp
theorem swap_rng {W : Wt} (hW : W.valid = true) (x y : List UInt8) (i j : Nat) : -1000 ≤ (Wt.swap W x y i j).1 ∧ (Wt.swap W x y i j).1 ≤ 1000 := by
  have hv := Wt.valid_num hW
  unfold Wt.swap
  split <;> simp <;> omega
/-- the steps' box behind the store -/
theorem box_cells {W : Wt} {x y : List UInt8} {i j : Nat} {w6 : World} {b : Nat} (h : Blk w6 b 53 (splice (initArr 0) 0 (stepArr (W.steps x y i j)))) :
    w6.cell? ⟨b, 3, none⟩ = some (.int .i64 (Wt.same x y i j).1) ∧ w6.cell? ⟨b, 6, none⟩ = some (.int .i64 (Wt.change W x y i j).1) := by
  rw [splice_all rfl] at h
  exact ⟨h.cell 3, h.cell 6⟩
theorem AhTop.drewN {wr wo : World} {R T : Nat} {W : Wt} {x p : ByteArray} {k : Nat} {B : Nat → Nat} {f : Nat → Nat → Int} (h : AhTop wr wo R T W x p k B f) (q : Nat) : AhTop (wr.drewN q) wo R T W x p k B f :=
  ⟨h.rws.drewN q, h.done, below_drewN h.bel q, h.base⟩
theorem AhTop.below {wr w' wo : World} {R T : Nat} {W : Wt} {x p : ByteArray} {k : Nat} {B : Nat → Nat} {f : Nat → Nat → Int} (h : AhTop wr wo R T W x p k B f) (hb : Below wr.heap.size wr w') : AhTop w' wo R T W x p k B f :=
  ⟨h.rws.below hb, h.done, h.bel.trans (hb.mono h.bel.size), h.base⟩
/-- the last loop: the text's places behind the row -/
def AhOv (wr wo : World) (R T : Nat) (W : Wt) (x p : ByteArray) (t16 t17 : Value) : Prop := ∃ i : Nat, (i = 0 ∨ i + 1 ≤ x.size) ∧ (p.size = 0 → i = 0) ∧ t16 = .int .i64 (W.afold x.data.toList p.data.toList i) ∧ t17 = .int .i64 i ∧ ∃ B f, AhTop wr wo R T W x p (p.size + 1) B f
theorem minOf_row (zs : List Int) (h : zs ≠ []) : Lib.minOf zs = Wt.minL zs := by
  cases zs with
  | nil => exact absurd rfl h
  | cons a l => simp [Lib.minOf, Wt.minL]
theorem over_byte {x p : ByteArray} {i : Nat} (h : i + 1 < x.size) (hp : 0 < p.size) : Wt.over x.data.toList p.data.toList i = (!(decide (x[i].toNat = x[i + 1].toNat)) && decide (x[i + 1].toNat = p[p.size - 1].toNat)) := by
  have e1 := at_byte x (show i < x.size by omega)
  have e2 := at_byte x h
  have e3 := at_byte p (show p.size - 1 < p.size by omega)
  have e4 : p.data.toList.length = p.size := by simp
  unfold Wt.over
  rw [e4, e1, e2, e3]
  have q : ∀ a b : Nat, ((a : Int) == (b : Int)) = decide (a = b) := fun a b => by rw [Bool.eq_iff_iff]; simp; omega
  simp only [bne, q]
theorem run_index_str (x : ByteArray) (k : Nat) (hk : k < x.size) {iz : Int} (hi : iz = k) (w : World) : (Instr.index 9 (.string x) (.int .i64 iz)).run Try.prog w = .ok (.int .u8 x[k].toNat) w := by
  subst hi
  go_simp
theorem ahead_f {W : Wt} {x y : List UInt8} (h : ok3 W x y = false) : ahead W x y = 0 ∧ errn (ok3 W x y) = 1 := by simp [ahead, errn, h]

set_option maxHeartbeats 20000000 in
set_option maxRecDepth 100000 in
theorem ahead_any (W : Wt) (A : Option Addr) (n c X : Nat) (x p : ByteArray) (w : World) (hN : Near w X A n W.near) (hX : X ≤ w.heap.size) (hn : n ≤ 140737488355328) (hx : x.size ≤ maxLen) (hp : p.size ≤ maxLen) :
    Calls Try.prog 16 #[wval W A n c, .string x, .string p] w fun e w' => e = .returned (.tuple #[.int .i64 (ahead W x.data.toList p.data.toList), .int .i64 (errn (ok3 W x.data.toList p.data.toList))]) ∧ Below w.heap.size w w' := by
  have HN := hide hN
  have HB := hide (Box.start w W A n c)
  clear hN
  cases hv : W.valid
  · have HF := hide (ahead_f (W := W) (x := x.data.toList) (y := p.data.toList) (by simp [ok3, hv]))
    go_enter Try.func16, Try.ntmps16
    unfold wval
    go_wp2_with (first
      | (go_at_call 20; rw [← wval_eq]; refine (valid_try W A n c X _ (by exact HN.out.below HB.out.bel hX) (by simp; omega) hn).mono ?_; rintro e w1 ⟨rfl, hb⟩; have HT := hide (HB.out.next hb); clear HB hb; have HB := HT; clear HT))
    go_ret2
    exact ⟨ret_two HF.out.1.symm HF.out.2.symm, HB.out.bel⟩
  cases hxt : okText x.data.toList
  · have HF := hide (ahead_f (W := W) (x := x.data.toList) (y := p.data.toList) (by simp [ok3, hxt]))
    go_enter Try.func16, Try.ntmps16
    unfold wval
    go_wp2_with (first
      | (go_at_call 20; rw [← wval_eq]; refine (valid_try W A n c X _ (by exact HN.out.below HB.out.bel hX) (by simp; omega) hn).mono ?_; rintro e w1 ⟨rfl, hb⟩; have HT := hide (HB.out.next hb); clear HB hb; have HB := HT; clear HT)
      | (go_at_call 26; refine (isText_any _ _ (by assumption)).mono ?_; rintro e w1 ⟨rfl, hb⟩; have HT := hide (HB.out.next hb); clear HB hb; have HB := HT; clear HT))
    go_ret2
    exact ⟨ret_two HF.out.1.symm HF.out.2.symm, HB.out.bel⟩
  cases hyt : okText p.data.toList
  · have HF := hide (ahead_f (W := W) (x := x.data.toList) (y := p.data.toList) (by simp [ok3, hyt]))
    go_enter Try.func16, Try.ntmps16
    unfold wval
    go_wp2_with (first
      | (go_at_call 20; rw [← wval_eq]; refine (valid_try W A n c X _ (by exact HN.out.below HB.out.bel hX) (by simp; omega) hn).mono ?_; rintro e w1 ⟨rfl, hb⟩; have HT := hide (HB.out.next hb); clear HB hb; have HB := HT; clear HT)
      | (go_at_call 26; refine (isText_any _ _ (by assumption)).mono ?_; rintro e w1 ⟨rfl, hb⟩; have HT := hide (HB.out.next hb); clear HB hb; have HB := HT; clear HT))
    go_ret2
    exact ⟨ret_two HF.out.1.symm HF.out.2.symm, HB.out.bel⟩
  have HF : Hid (ahead W x.data.toList p.data.toList = Wt.aheadV W x.data.toList p.data.toList ∧ errn (ok3 W x.data.toList p.data.toList) = 0) := by show _ ∧ _; simp [ahead, errn, ok3, hv, hxt, hyt]
  have HV := hide hv
  have hx120 : x.size ≤ 120 := by simpa using okText_len hxt
  have hy120 : p.size ≤ 120 := by simpa using okText_len hyt
  have HX := hide (okText_len hxt)
  have HY := hide (okText_len hyt)
  obtain ⟨n1, n2, n3, n4, n5, n6, n7, n8⟩ := Wt.valid_num hv
  have hmk := fun w => run_make_any (P := Try.prog) Try.underlying46 info_ints rfl (N := (p.size : Int) + 1) (n := p.size + 1) (by omega) (by omega) (by omega) w
  have hmr := fun w => run_make_any (P := Try.prog) Try.underlying25 info_int rfl (N := (x.size : Int) + 1) (n := x.size + 1) (by omega) (by omega) (by omega) w
  go_enter Try.func16, Try.ntmps16
  unfold wval
  go_wp2_with (first
    | (go_at_call 20; rw [← wval_eq]; refine (valid_try W A n c X _ (by exact HN.out.below HB.out.bel hX) (by simp; omega) hn).mono ?_; rintro e w1 ⟨rfl, hb⟩; have HT := hide (HB.out.next hb); clear HB hb; have HB := HT; clear HT)
    | (go_at_call 26; refine (isText_any _ _ (by assumption)).mono ?_; rintro e w1 ⟨rfl, hb⟩; have HT := hide (HB.out.next hb); clear HB hb; have HB := HT; clear HT; obtain ⟨d0, d1, d2, d3, d4⟩ := HB.out.facts)
    | (go_at_call 27; rw [← wval_eq]; refine (open_any W HV.out x p A n c X _ (by exact HN.out.below HB.out.bel hX) (by have := HB.out.bel.size; omega)).mono ?_; rintro e wo ⟨rfl, ho⟩; have HO := hide (ho.ed HN.out.1); have HBo := hide (HB.out.next ho.bel); clear ho HB))
  clear d0 d1 d2 d3 d4
  go_loopw [42] (fun t42 wr => AhJv wr wo (wo.heap.size + 1) wo.heap.size W x p t42) (fun t42 _ => (p.size + 1) - (intOf t42).toNat)
  case atStart => exact ⟨0, by omega, rfl, AhJ.start wo W x p⟩
  case round =>
    obtain ⟨j, hj, rfl, hJ⟩ := hrel
    have HJ := hide hJ
    clear hJ
    by_cases hlt : j < p.size + 1
    · have ⟨u0, u1, u2, u3, u4, u5, u6⟩ : wr.cell? ⟨wo.heap.size + 1, 0, none⟩ = some (.slice (some ⟨wo.heap.size, 0, none⟩) (p.size + 1) (p.size + 1)) ∧ wr.cell? ⟨wo.heap.size, j, none⟩ = some (.slice none 0 0) ∧ wr.frozen? ⟨wo.heap.size, j, none⟩ = false ∧ wo.heap.size < wr.heap.size ∧ wo.heap.size + 1 < wr.heap.size ∧ (j : Int) < (p.size : Int) + 1 ∧ 0 ≤ (j : Int) := by
        obtain ⟨B, f, h⟩ := HJ.out
        refine ⟨h.rws.var.cell 0, ?_, h.rws.top.frozen _, h.rws.top.lt, h.rws.var.lt, by omega, by omega⟩
        rw [h.rws.top.cell, slotsB_get (by omega), if_neg (by omega)]
      go_wp2
      go_region
      have HI := hide (HJ.out.row 1)
      clear HJ u0 u1 u2 u3 u4 u5 u6
      generalize hww : World.drew (World.alloc (World.setCell wr ⟨wo.heap.size, j, none⟩ (.slice (some ⟨wr.heap.size, 0, none⟩) (x.size + 1) (x.size + 1))) (.cells (madeCells #[.int .i64 0] (x.size + 1)) 3)) = wi
      have HI2 : Hid (AhI wi wo (wo.heap.size + 1) wo.heap.size W x p j 0) := by rw [← hww]; exact HI.out
      clear hww HI
      have ⟨g1, g2⟩ : wi.cell? ⟨wo.heap.size + 1, 0, none⟩ = some (.slice (some ⟨wo.heap.size, 0, none⟩) (p.size + 1) (p.size + 1)) ∧ ∃ b, wi.cell? ⟨wo.heap.size, j, none⟩ = some (.slice (some ⟨b, 0, none⟩) (x.size + 1) (x.size + 1)) := by
        obtain ⟨B, f, h⟩ := HI2.out
        have := h.facts (by omega) (Nat.zero_le _)
        exact ⟨this.1, _, this.2.1⟩
      obtain ⟨b, g2⟩ := g2
      go_wp2
      clear g1 g2
      go_loopw [57] (fun t57 wr => AhIv wr wo (wo.heap.size + 1) wo.heap.size W x p j t57) (fun t57 _ => (x.size + 1) - (intOf t57).toNat)
      case atStart => exact ⟨0, by omega, rfl, HI2.out⟩
      case round =>
        obtain ⟨i, hi, rfl, hI⟩ := hrel
        have HI := hide hI
        clear hI HI2
        by_cases hlti : i < x.size + 1
        · obtain ⟨B, f, hA⟩ := HI.out
          obtain ⟨k1, k2, ⟨ov, k3⟩, k4, k5, k6, k7⟩ := hA.facts (by omega) (show i ≤ x.size by omega)
          have hFj := Wt.F_rec HV.out HX.out HY.out (j := j) (i := i) (by simpa using (show j ≤ p.size by omega)) (by simpa using (show i ≤ x.size by omega))
          have HFR := hide hFj
          have HA := hide hA
          clear hFj hA HI
          have HBx := hide (HBo.out.next (wc := wo) (w' := wr) (HA.out.bel))
          obtain ⟨d0, d1, d2, d3, _⟩ := HBx.out.facts
          rcases Nat.eq_zero_or_pos i with hi0 | hi0
          · subst hi0
            have m1 : 0 ≤ (j : Int) * W.ins := Int.mul_nonneg (by omega) n1
            have m2 : (j : Int) * W.ins ≤ 1000000 := by
              have := Int.mul_le_mul (show (j : Int) ≤ 120 by omega) n2 n1 (by omega)
              omega
            have m3 : IntKind.i64.wrap ((j : Int) * W.ins) = (j : Int) * W.ins := IntWalk.i64_in _ (by omega)
            have HV0 : Hid ((j : Int) * W.ins = Wt.F W x.data.toList p.data.toList j 0) := by show _ = _; rw [← HFR.out]; simp [Wt.fstep]
            go_wp2
            go_region
            go_wp2
            go_roundw
            case rel =>
              have R1 : AhI _ wo (wo.heap.size + 1) wo.heap.size W x p j (0 + 1) := (AhI.next HA.out HV0.out).drewN 1
              first | exact ⟨1, by omega, by go_num, R1⟩ | ((repeat apply Exists.intro); exact ⟨⟨1, by omega, by go_num, R1⟩, rfl⟩)
            case measure => simp [intOf]; try omega
          · have hie : ((i : Int) == 0) = false := by simp; omega
            rcases Nat.eq_zero_or_pos j with hj0 | hj0
            · subst hj0
              have HV0 : Hid (Wt.atv (Wt.F W x.data.toList p.data.toList 0 (i - 1)) W.del = Wt.F W x.data.toList p.data.toList 0 i) := by
                show _ = _
                rw [← HFR.out]
                simp [Wt.fstep, show i ≠ 0 by omega]
              go_wp2_with (go_at_call 33; refine (HA.out.at_ HV.out hx120 hy120 (by omega) (i - 1) 0 (by omega) (by omega) (by omega) (by omega) (by omega)).mono ?_; rintro e w' ⟨rfl, rfl⟩)
              all_goals
                go_roundw
                case rel => first | exact ⟨i + 1, by omega, by go_num, AhI.next HA.out HV0.out⟩ | ((repeat apply Exists.intro); exact ⟨⟨i + 1, by omega, by go_num, AhI.next HA.out HV0.out⟩, rfl⟩)
                case measure => simp [intOf]; try omega
            · have hi1 : i - 1 ≤ x.size := by omega
              have hj1 : j - 1 ≤ p.size := by omega
              have hix1 : ((i : Int) - 1) = ((i - 1 : Nat) : Int) := by omega
              have hjx1 : ((j : Int) - 1) = ((j - 1 : Nat) : Int) := by omega
              have HEo := hide (HO.out.below HA.out.bel HO.out.blk.lt HO.out.map.lt)
              have r1 := same_rng x.data.toList p.data.toList (i - 1) (j - 1)
              have r2 := change_rng HV.out x.data.toList p.data.toList (i - 1) (j - 1)
              have s1 : IntKind.i64.wrap ((i : Int) - 1) = (i : Int) - 1 := IntWalk.i64_in _ (by omega)
              have s2 : IntKind.i64.wrap ((j : Int) - 1) = (j : Int) - 1 := IntWalk.i64_in _ (by omega)
              go_wp2_with (first
                | (go_at_call 33; refine (HA.out.at_ HV.out hx120 hy120 (by omega) (i - 1) j (by omega) (by omega) (by omega) (by omega) (by omega)).mono ?_; rintro e w' ⟨rfl, rfl⟩)
                | (go_at_call 31; refine (steps_any W HV.out x p A n c _ _ (i - 1) (j - 1) _ HEo.out hx120 hy120 hi1 hj1).mono ?_; rintro e w5 ⟨rfl, hb5⟩; have HB5 := hide hb5; clear hb5)
                | ((with_reducible show wpList _ _ _ (Oper.mk _ (Op.store 53 (.tmp 14) (.tmp 86)) _ _ _ _ :: _) _ _); refine wpList_store_part rfl 53 (.tmp 14) (.tmp 86) rfl w5.heap.size 0 _ rfl rfl 53 (initArr 0) (by rw [initArr0]; exact Blk.new _ _ _) (by kernel_rfl) (fit18 rfl) (stepArr_one _) ?_; intro w6 ho6 hb6; have HW6 := hide ho6; obtain ⟨x3, x6⟩ := box_cells hb6; have HB6 := hide hb6; clear ho6 hb6))
              have hbb := hide (HW6.out.below (HB5.out.alloc HB5.out.size _) (HB5.out.alloc HB5.out.size _).size HB5.out.size)
              have HA6 := hide (HA.out.below hbb.out)
              have HAd : Hid (AhRel w6.drew wo (wo.heap.size + 1) wo.heap.size W x p j i B f) := HA6.out.drewN 1
              have s3 : IntKind.i64.wrap ((i - 1 : Nat) : Int) = ((i - 1 : Nat) : Int) := IntWalk.i64_in _ (by omega)
              have s4 : IntKind.i64.wrap ((j - 1 : Nat) : Int) = ((j - 1 : Nat) : Int) := IntWalk.i64_in _ (by omega)
              have HBx6 := hide (HBx.out.next hbb.out)
              have HE6 := hide (HEo.out.below hbb.out HEo.out.blk.lt HEo.out.map.lt)
              obtain ⟨q1, q2, ⟨ov6, q3⟩, q4, q5, q6, q7⟩ := HA6.out.facts (by omega) (show i ≤ x.size by omega)
              clear d0 d1 d2 d3
              obtain ⟨d0, d1, d2, d3, _⟩ := HBx6.out.facts
              refine wp_region_still_tail 26 (by kernel_rfl) (by kernel_rfl) ?_
              simp only [List.take_succ_cons, List.take_zero]
              repeat still_step
              still_call (HAd.out.still HV.out hx120 hy120 (by omega) i (j - 1) (by omega) (by omega) (by omega) (by omega) (by omega))
              repeat still_step
              still_call (HAd.out.still HV.out hx120 hy120 (by omega) (i - 1) (j - 1) (by omega) (by omega) (by omega) (by omega) (by omega))
              repeat still_step
              still_call (HAd.out.still HV.out hx120 hy120 (by omega) (i - 1) (j - 1) (by omega) (by omega) (by omega) (by omega) (by omega))
              try refine wpStill_nil ?_
              simp only [List.drop_succ_cons, List.drop_zero]
              change wpList _ _ _ _ _ w6.drew
              have HEd : Hid (Ed w6.drew (w1.heap.size + 2) (w1.heap.size + 1) W A n c x p) := HE6.out.drewN 1
              clear HBx6 HE6 HA6 q1 q2 q3 q4 q5 q6 q7 d0 d1 d2 d3 x3 x6 HB6 hbb HW6 HB5 HEo HBx HA k1 k2 k3 k4 k5 k6 k7
              generalize w6.drew = w7 at HAd HEd ⊢
              generalize hm4 : min (min (min (Wt.atv (W.F x.data.toList p.data.toList j (i - 1)) W.del) (Wt.atv (W.F x.data.toList p.data.toList (j - 1) i) W.ins)) (Wt.atv (W.F x.data.toList p.data.toList (j - 1) (i - 1)) (Wt.same x.data.toList p.data.toList (i - 1) (j - 1)).1)) (Wt.atv (W.F x.data.toList p.data.toList (j - 1) (i - 1)) (W.change x.data.toList p.data.toList (i - 1) (j - 1)).1) = m4
              have HM4 := hide hm4
              clear hm4
              have HV1 : Hid ((if 1 < i ∧ 1 < j then min m4 (Wt.atv (W.F x.data.toList p.data.toList (j - 2) (i - 2)) (W.swap x.data.toList p.data.toList (i - 2) (j - 2)).1) else m4) = Wt.F W x.data.toList p.data.toList j i) := by
                show _ = _
                rw [← HFR.out, ← HM4.out]
                simp only [Wt.fstep, if_neg (show ¬ i = 0 by omega), if_pos (show 0 < j by omega)]
              by_cases hw1 : 1 < (i : Int)
              · by_cases hw2 : 1 < (j : Int)
                · have HV0 : Hid (min m4 (Wt.atv (W.F x.data.toList p.data.toList (j - 2) (i - 2)) (W.swap x.data.toList p.data.toList (i - 2) (j - 2)).1) = Wt.F W x.data.toList p.data.toList j i) := by
                    show _ = _
                    rw [← HV1.out, if_pos (by omega)]
                  have hix2 : ((i : Int) - 2) = ((i - 2 : Nat) : Int) := by omega
                  have hjx2 : ((j : Int) - 2) = ((j - 2 : Nat) : Int) := by omega
                  have s5 : IntKind.i64.wrap ((i - 2 : Nat) : Int) = ((i - 2 : Nat) : Int) := IntWalk.i64_in _ (by omega)
                  have s6 : IntKind.i64.wrap ((j - 2 : Nat) : Int) = ((j - 2 : Nat) : Int) := IntWalk.i64_in _ (by omega)
                  have hi2 : i - 2 ≤ x.size := by omega
                  have hj2 : j - 2 ≤ p.size := by omega
                  have r5 := swap_rng HV.out x.data.toList p.data.toList (i - 2) (j - 2)
                  obtain ⟨⟨sc, sa, sb⟩, hs⟩ : ∃ s, W.swap x.data.toList p.data.toList (i - 2) (j - 2) = s := ⟨_, rfl⟩
                  rw [hs] at r5 HV0
                  obtain ⟨r5, r6⟩ : -1000 ≤ sc ∧ sc ≤ 1000 := r5
                  have hix : ∀ w, (Instr.index 53 (.agg (stepArr (W.steps x.data.toList p.data.toList (i - 2) (j - 2)))) (.int .i64 5)).run Try.prog w = .ok (.agg #[.int .i64 sc, .int .i64 sa, .int .i64 sb]) w := fun w => index_step _ (steps_length W x.data.toList p.data.toList (i - 2) (j - 2)) (k := 5) (by rw [← hs]; rfl) w
                  have HV2 : Hid (min m4 (Wt.atv (W.F x.data.toList p.data.toList (j - 2) (i - 2)) sc) = Wt.F W x.data.toList p.data.toList j i) := HV0
                  clear hs
                  go_wp2_with (first
                    | (go_at_call 34; refine (least4 _ _ _ _ _ w7 (by rfl)).mono ?_; rintro e w8 ⟨rfl, hb8⟩; rw [HM4.out]; have HB8 := hide hb8; clear hb8; have HA8 := hide (HAd.out.below HB8.out); have HE8 := hide (HEd.out.below HB8.out HEd.out.blk.lt HEd.out.map.lt); obtain ⟨q1, q2, ⟨ov8, q3⟩, q4, q5, q6, q7⟩ := HA8.out.facts (by omega) (show i ≤ x.size by omega))
                    | (go_at_call 31; refine (steps_any W HV.out x p A n c _ _ (i - 2) (j - 2) _ HE8.out hx120 hy120 hi2 hj2).mono ?_; rintro e w9 ⟨rfl, hb9⟩; have HB9 := hide hb9; clear hb9; have HA9 := hide (HA8.out.below HB9.out); clear q1 q2 q3 q4 q5 q6 q7; obtain ⟨q1, q2, ⟨ov9, q3⟩, q4, q5, q6, q7⟩ := HA9.out.facts (by omega) (show i ≤ x.size by omega))
                    | ((with_reducible show wpList _ _ _ (Oper.mk _ (Op.field 52 (.tmp 133) 0) _ _ _ _ :: _) _ _); refine wpList_field_one rfl _ _ _ rfl (.int .i64 sc) (by rfl) ?_)
                    | (go_at_call 33; refine (HA9.out.at_ HV.out hx120 hy120 (by omega) (i - 2) (j - 2) (by omega) (by omega) (by omega) (by omega) (by omega)).mono ?_; rintro e w' ⟨rfl, rfl⟩)
                    | (go_at_call 34; refine (least2 _ _ _ w9 (by rfl)).mono ?_; rintro e w10 ⟨rfl, hb10⟩; have HA10 := hide (HA9.out.below hb10); clear hb10; clear q1 q2 q3 q4 q5 q6 q7; obtain ⟨q1, q2, ⟨ov10, q3⟩, q4, q5, q6, q7⟩ := HA10.out.facts (by omega) (show i ≤ x.size by omega)))
                  all_goals
                    go_roundw
                    case rel => first | exact ⟨i + 1, by omega, by go_num, AhI.next HA10.out HV2.out⟩ | ((repeat apply Exists.intro); exact ⟨⟨i + 1, by omega, by go_num, AhI.next HA10.out HV2.out⟩, rfl⟩)
                    case measure => simp [intOf]; try omega
                · have HV0 : Hid (m4 = Wt.F W x.data.toList p.data.toList j i) := by
                    show _ = _
                    rw [← HV1.out, if_neg (by omega)]
                  go_wp2_with (first
                    | (go_at_call 34; refine (least4 _ _ _ _ _ w7 (by rfl)).mono ?_; rintro e w8 ⟨rfl, hb8⟩; rw [HM4.out]; have HB8 := hide hb8; clear hb8; have HA8 := hide (HAd.out.below HB8.out); have HE8 := hide (HEd.out.below HB8.out HEd.out.blk.lt HEd.out.map.lt); obtain ⟨q1, q2, ⟨ov8, q3⟩, q4, q5, q6, q7⟩ := HA8.out.facts (by omega) (show i ≤ x.size by omega)))
                  all_goals
                    go_roundw
                    case rel => first | exact ⟨i + 1, by omega, by go_num, AhI.next HA8.out HV0.out⟩ | ((repeat apply Exists.intro); exact ⟨⟨i + 1, by omega, by go_num, AhI.next HA8.out HV0.out⟩, rfl⟩)
                    case measure => simp [intOf]; try omega
              · have HV0 : Hid (m4 = Wt.F W x.data.toList p.data.toList j i) := by
                  show _ = _
                  rw [← HV1.out, if_neg (by omega)]
                go_wp2_with (first
                  | (go_at_call 34; refine (least4 _ _ _ _ _ w7 (by rfl)).mono ?_; rintro e w8 ⟨rfl, hb8⟩; rw [HM4.out]; have HB8 := hide hb8; clear hb8; have HA8 := hide (HAd.out.below HB8.out); have HE8 := hide (HEd.out.below HB8.out HEd.out.blk.lt HEd.out.map.lt); obtain ⟨q1, q2, ⟨ov8, q3⟩, q4, q5, q6, q7⟩ := HA8.out.facts (by omega) (show i ≤ x.size by omega)))
                all_goals
                  go_roundw
                  case rel => first | exact ⟨i + 1, by omega, by go_num, AhI.next HA8.out HV0.out⟩ | ((repeat apply Exists.intro); exact ⟨⟨i + 1, by omega, by go_num, AhI.next HA8.out HV0.out⟩, rfl⟩)
                  case measure => simp [intOf]; try omega
        · have HZ := hide (AhI.done_row (by have e : i = x.size + 1 := by omega
                                            rw [← e]; exact HI.out))
          clear HI
          go_wp2
          go_roundw
          case rel =>
            have R : AhJv _ wo (wo.heap.size + 1) wo.heap.size W x p (.int .i64 ((j : Int) + 1)) := ⟨j + 1, by omega, by go_num, HZ.out⟩
            first | exact R | ((repeat apply Exists.intro); exact ⟨R, rfl⟩)
          case measure => simp [intOf]; try omega
    · obtain ⟨B, f, hT⟩ : AhJ wr wo (wo.heap.size + 1) wo.heap.size W x p (p.size + 1) := by
        have e : j = p.size + 1 := by omega
        rw [← e]; exact HJ.out
      have HT := hide hT
      have HBx := hide (HBo.out.next hT.bel)
      have hR := hT.rws.var.cell 0
      have hS := hT.rws.slot (show p.size < p.size + 1 by omega) (by omega)
      have hmin : Hid (Lib.minOf ((List.range (x.size + 1)).map fun i => f p.size i) = W.afold x.data.toList p.data.toList 0) := by
        show _ = _
        have e : ((List.range (x.size + 1)).map fun i => f p.size i) = (List.range (x.data.toList.length + 1)).map fun i => W.F x.data.toList p.data.toList p.data.toList.length i := by
          have e1 : x.data.toList.length = x.size := by simp
          have e2 : p.data.toList.length = p.size := by simp
          rw [e1, e2]
          exact List.map_congr_left fun i hi => hT.done p.size i (by have := List.mem_range.1 hi; omega) (by omega)
        rw [e]
        exact minOf_row _ (by simp)
      have hcells : Hid (∀ q, q < ((List.range (x.size + 1)).map fun i => f p.size i).length → wr.cell? ⟨B p.size, 0 + q, none⟩ = some (.int .i64 (((List.range (x.size + 1)).map fun i => f p.size i).getD q 0))) := by
        show ∀ q, _ → _
        intro q hq
        rw [Nat.zero_add, hT.rws.cell (by omega) (by simpa using hq)]
        simp at hq
        simp [hq]
      clear hT HJ
      obtain ⟨d0, d1, d2, d3, _⟩ := HBx.out.facts
      go_wp2_with (go_at_call 34; refine (least_any _ _ _ ((List.range (x.size + 1)).map fun i => f p.size i) _ (by omega) (by simp) (by omega) hcells.out).mono ?_; rintro e w' ⟨rfl, rfl⟩; rw [hmin.out])
      go_loopw [16, 17] (fun t16 t17 wr => AhOv wr wo (wo.heap.size + 1) wo.heap.size W x p t16 t17) (fun _ t17 _ => x.size - (intOf t17).toNat)
      case atStart => exact ⟨0, .inl rfl, fun _ => rfl, rfl, rfl, B, f, HT.out⟩
      case round =>
        clear HT HBx hR hS hmin hcells d0 d1 d2 d3
        obtain ⟨i, hi, hz, rfl, rfl, B, f, hT⟩ := hrel
        have HT := hide hT
        have HBx := hide (HBo.out.next hT.bel)
        clear hT
        obtain ⟨d0, d1, d2, d3, _⟩ := HBx.out.facts
        by_cases hlt : i + 1 < x.size
        · by_cases hp0 : 0 < p.size
          · have hpl : p.size - 1 < p.size := by omega
            have hi1 : i < x.size := by omega
            have hjx1 : ((p.size : Int) - 1) = ((p.size - 1 : Nat) : Int) := by omega
            have hov := over_byte hlt hp0
            have xi1 : ∀ w, (Instr.index 9 (.string x) (.int .i64 ((i : Int) + 1))).run Try.prog w = .ok (.int .u8 x[i + 1].toNat) w := run_index_str x (i + 1) hlt (by omega)
            have s1 : IntKind.i64.wrap ((i : Int) + 1) = (i : Int) + 1 := IntWalk.i64_in _ (by omega)
            have s2 : IntKind.i64.wrap ((p.size - 1 : Nat) : Int) = ((p.size - 1 : Nat) : Int) := IntWalk.i64_in _ (by omega)
            by_cases e1 : x[i].toNat = x[i + 1].toNat
            · have HV : Hid (W.afold x.data.toList p.data.toList i = W.afold x.data.toList p.data.toList (i + 1)) := by
                show _ = _
                rw [Wt.afold_succ, hov]; simp [e1]
              have hb1 : ((x[i].toNat : Int) != (x[i + 1].toNat : Int)) = false := by simp [e1]
              clear hov e1
              go_wp2
              go_quiet (fail)
              go_wp2
              go_roundw
              case rel => first | exact ⟨i + 1, by omega, by omega, by rw [HV.out], by go_num, B, f, HT.out⟩ | ((repeat apply Exists.intro); exact ⟨⟨i + 1, by omega, by omega, by rw [HV.out], by go_num, B, f, HT.out.drewN _⟩, rfl⟩) | exact ⟨i + 1, by omega, by omega, by rw [HV.out], by go_num, B, f, HT.out.drewN _⟩
              case measure => simp [intOf]; try omega
            · have hb1 : ((x[i].toNat : Int) != (x[i + 1].toNat : Int)) = true := by simp; omega
              by_cases e2 : x[i + 1].toNat = p[p.size - 1].toNat
              · have HK : Hid (min (W.afold x.data.toList p.data.toList i) (Wt.atv (W.F x.data.toList p.data.toList (p.size - 1) i) W.swp) = W.afold x.data.toList p.data.toList (i + 1)) := by
                  show _ = _
                  rw [Wt.afold_succ, hov, if_pos (by simp only [Bool.and_eq_true, Bool.not_eq_true', decide_eq_false_iff_not, decide_eq_true_eq]; exact ⟨e1, e2⟩)]
                  simp
                have hb2 : ((x[i + 1].toNat : Int) == (p[p.size - 1].toNat : Int)) = true := by simp [e2]
                clear hov e1 e2
                go_wp2
                go_quiet (fail)
                go_wp2_with (first
                  | (go_at_call 33; refine ((HT.out.drewN _).at_ HV.out hx120 hy120 i (p.size - 1) (by omega) (by omega) (by omega) (by omega) (by omega)).mono ?_; rintro e w' ⟨rfl, rfl⟩)
                  | (go_at_call 34; refine (least2 _ _ _ _ (by rfl)).mono ?_; rintro e w8 ⟨rfl, hb8⟩; rw [HK.out]; have HT8 := hide ((HT.out.drewN _).below hb8); clear hb8))
                go_roundw
                case rel => first | exact ⟨i + 1, by omega, by omega, rfl, by go_num, B, f, HT8.out⟩ | ((repeat apply Exists.intro); exact ⟨⟨i + 1, by omega, by omega, rfl, by go_num, B, f, HT8.out⟩, rfl⟩)
                case measure => simp [intOf]; try omega
              · have HV : Hid (W.afold x.data.toList p.data.toList i = W.afold x.data.toList p.data.toList (i + 1)) := by
                  show _ = _
                  rw [Wt.afold_succ, hov]; simp [e1, e2]
                have hb2 : ((x[i + 1].toNat : Int) == (p[p.size - 1].toNat : Int)) = false := by simp; omega
                clear hov e1 e2
                go_wp2
                go_quiet (fail)
                go_wp2
                go_roundw
                case rel => first | exact ⟨i + 1, by omega, by omega, by rw [HV.out], by go_num, B, f, HT.out⟩ | ((repeat apply Exists.intro); exact ⟨⟨i + 1, by omega, by omega, by rw [HV.out], by go_num, B, f, HT.out.drewN _⟩, rfl⟩) | exact ⟨i + 1, by omega, by omega, by rw [HV.out], by go_num, B, f, HT.out.drewN _⟩
                case measure => simp [intOf]; try omega
          · have HE : Hid (W.afold x.data.toList p.data.toList i = ahead W x.data.toList p.data.toList) := by
              show _ = _
              rw [HF.out.1, hz (by omega)]
              simp [Wt.aheadV, show p.size = 0 by omega, Wt.afold]
            go_wp2
            go_ret2
            exact ⟨ret_two HE.out HF.out.2.symm, HBx.out.bel⟩
        · have HE : Hid (W.afold x.data.toList p.data.toList i = ahead W x.data.toList p.data.toList) := by
            show _ = _
            rw [HF.out.1]
            unfold Wt.aheadV
            by_cases hp0 : 0 < p.data.toList.length
            · rw [if_pos hp0]
              have : x.data.toList.length - 1 = i := by
                have e1 : x.data.toList.length = x.size := by simp
                omega
              rw [this]
            · rw [if_neg hp0, hz (by simpa using hp0)]
              rfl
          go_wp2
          go_ret2
          exact ⟨ret_two HE.out HF.out.2.symm, HBx.out.bel⟩
end Go.Proofs.Ytnpdhbagfkilkaa

/- Walks: Few, few. -/
set_option linter.unusedVariables false
set_option linter.unusedSimpArgs false
namespace Go.Proofs.Ytnpdhbagfkilkaa
open Go.RowKit

def okSz (s : Nat) : Bool := !((decide (24 < s) && decide (s ≤ 120)) || decide (200 < s))
def fewB (zs : List ByteArray) (n : Nat) : Bool := zs.all (fun z => okSz z.size) && (decide (n ≤ 30) || (decide (200 < n) && decide (n ≤ 300)))
def okUpto (zs : List ByteArray) (i : Nat) : Prop := ∀ j, j < i → okSz (zs.getD j ⟨#[]⟩).size = true
theorem okUpto_succ {zs : List ByteArray} {i : Nat} (h : okUpto zs i) (hi : okSz (zs.getD i ⟨#[]⟩).size = true) : okUpto zs (i + 1) := fun j hj => by
  rcases Nat.lt_or_ge j i with h1 | h1
  · exact h j h1
  · obtain rfl : j = i := by omega
    exact hi
theorem fewB_bad {zs : List ByteArray} {i n : Nat} (hi : i < zs.length) (h : okSz (zs.getD i ⟨#[]⟩).size = false) : fewB zs n = false := by
  unfold fewB
  rw [List.getD_eq_getElem?_getD, List.getElem?_eq_getElem hi] at h
  have : zs.all (fun z => okSz z.size) = false := by rw [List.all_eq_false]; exact ⟨zs[i], List.getElem_mem hi, by simpa using h⟩
  rw [this]; rfl
theorem fewB_good {zs : List ByteArray} {n : Nat} (h : okUpto zs zs.length) : fewB zs n = (decide (n ≤ 30) || (decide (200 < n) && decide (n ≤ 300))) := by
  unfold fewB
  have : zs.all (fun z => okSz z.size) = true := by
    rw [List.all_eq_true]
    intro z hz
    obtain ⟨j, hj, rfl⟩ := List.getElem_of_mem hz
    have := h j hj
    rw [List.getD_eq_getElem?_getD, List.getElem?_eq_getElem hj] at this
    exact this
  rw [this]; rfl
def FewI (w wr : World) (W : Wt) (A : Option Addr) (n c k : Nat) (zs : List ByteArray) (t5 : Value) : Prop := ∃ i : Nat, i ≤ k ∧ t5 = .int .i64 i ∧ Box wr w W A n c ∧ okUpto zs i
theorem Box.drewN {wc w : World} {W : Wt} {A : Option Addr} {n c : Nat} (h : Box wc w W A n c) (q : Nat) : Box (wc.drewN q) w W A n c := ⟨h.blk, below_drewN h.bel q⟩
def IsB (e : Ending) : Prop := ∃ r, e = .returned (.bool r)
theorem ret_b {a b : Bool} (h : a = b) : Ending.returned (.bool a) = .returned (.bool b) := by rw [h]
set_option maxHeartbeats 4000000 in
theorem Few_any (W : Wt) (A : Option Addr) (n c b k : Nat) (zs : List ByteArray) (w : World) (hn : n ≤ 140737488355328) (hk : zs.length = k) (hk2 : k ≤ 1000) (hz : ∀ z ∈ zs, z.size ≤ maxLen) (hb : b < w.heap.size) (hc : ∀ i, i < k → w.cell? ⟨b, i, none⟩ = some (.string (zs.getD i ⟨#[]⟩))) :
    Calls Try.prog 25 #[wval W A n c, .slice (some ⟨b, 0, none⟩) k k] w fun e w' => e = .returned (.bool (fewB zs n)) ∧ Below w.heap.size w w' := by
  have HB := hide (Box.start w W A n c)
  have HC := hide hc
  have HZ : Hid (∀ i, i < k → (zs.getD i ⟨#[]⟩).size ≤ maxLen) := by
    show ∀ i, _ → _
    intro i hi
    rw [List.getD_eq_getElem?_getD, List.getElem?_eq_getElem (by omega)]
    exact hz _ (List.getElem_mem _)
  clear hc hz
  go_enter Try.func25, Try.ntmps25
  unfold wval
  go_wp2
  go_loopw [5] (fun t5 wr => FewI w wr W A n c k zs t5) (fun t5 _ => k - (intOf t5).toNat)
  case atStart => exact ⟨0, by omega, rfl, HB.out, fun j hj => by omega⟩
  case round =>
    clear HB
    obtain ⟨i, hi, rfl, hB, hO⟩ := hrel
    have HB := hide hB
    have HO := hide hO
    clear hB hO
    by_cases hlt : i < k
    · have hci : wr.cell? ⟨b, i, none⟩ = some (.string (zs.getD i ⟨#[]⟩)) := by rw [HB.out.bel.cell (by exact hb)]; exact HC.out i hlt
      have hzi := HZ.out i hlt
      have hzm : (zs.getD i ⟨#[]⟩).size ≤ maxLen := hzi
      unfold maxLen at hzm
      clear hzi
      have HS := hide (@okUpto_succ zs i HO.out)
      have HD := hide (@fewB_bad zs i n (by omega))
      generalize zs.getD i ⟨#[]⟩ = z at hci hzm HS HD
      by_cases t1 : 24 < z.size <;> by_cases t2 : z.size ≤ 120 <;> by_cases t3 : 200 < z.size
      all_goals
        first
        | (exfalso; omega)
        | (go_wp2
           go_roundw
           case rel => first | exact ⟨i + 1, by omega, by go_num, HB.out, HS.out (by simp [okSz]; omega)⟩ | ((repeat apply Exists.intro); exact ⟨⟨i + 1, by omega, by go_num, HB.out, HS.out (by simp [okSz]; omega)⟩, rfl⟩)
           case measure => simp [intOf]; try omega)
        | (go_wp2
           go_ret
           exact ⟨ret_b (HD.out (by simp [okSz]; omega)).symm, HB.out.bel⟩)
    · obtain ⟨d0, d1, d2, d3, d4⟩ := HB.out.facts
      have hik : i = k := by omega
      have HG : Hid (fewB zs n = (decide (n ≤ 30) || (decide (200 < n) && decide (n ≤ 300)))) := fewB_good (by rw [hk, ← hik]; exact HO.out)
      clear hik
      by_cases t1 : n ≤ 30 <;> by_cases t2 : 200 < n <;> by_cases t3 : n ≤ 300
      all_goals
        first
        | (exfalso; omega)
        | (go_wp2
           go_ret
           refine ⟨ret_b ?_, by first | exact below_drewN HB.out.bel _ | exact HB.out.bel⟩
           rw [HG.out, Bool.eq_iff_iff]
           simp only [Bool.or_eq_true, Bool.and_eq_true, decide_eq_true_eq, Bool.true_eq, Bool.false_eq, reduceCtorEq, true_iff, iff_true, false_iff, iff_false]
           omega)
set_option maxHeartbeats 400000 in
theorem few_any (W : Wt) (A : Option Addr) (n c b k : Nat) (zs : List ByteArray) (w : World) (hn : n ≤ 140737488355328) (hk : zs.length = k) (hk2 : k ≤ 1000) (hz : ∀ z ∈ zs, z.size ≤ maxLen) (hb : b < w.heap.size) (hc : ∀ i, i < k → w.cell? ⟨b, i, none⟩ = some (.string (zs.getD i ⟨#[]⟩))) :
    Calls Try.prog 11 #[wval W A n c, .slice (some ⟨b, 0, none⟩) k k] w fun e w' => e = .returned (.bool (fewB zs n)) ∧ Below w.heap.size w w' := by
  have HB := hide (Box.start w W A n c)
  have HC := hide hc
  clear hc
  go_enter Try.func11, Try.ntmps11
  unfold wval
  go_wp2_with (go_at_call 25; rw [← wval_eq]; refine (Few_any W A n c b k zs _ hn hk hk2 hz (by exact Nat.lt_of_lt_of_le hb HB.out.bel.size) (by intro i hi; rw [HB.out.bel.cell (by exact hb)]; exact HC.out i hi)).mono ?_; rintro e w1 ⟨rfl, hb1⟩; have HT := hide (HB.out.next hb1); clear hb1)
  go_ret
  exact ⟨rfl, HT.out.bel⟩
end Go.Proofs.Ytnpdhbagfkilkaa

/- The plain side: the chapter's examples. -/
set_option linter.unusedVariables false
set_option linter.unusedSimpArgs false
namespace Go.Proofs.Ytnpdhbagfkilkaa
def sW : Wt := ⟨2, 2, 3, 1, [(97, 101, 1)]⟩
theorem ex1 : dist sW [97, 110, 110, 97] [101, 110, 110, 97] = 1 ∧ errn (ok3 sW [97, 110, 110, 97] [101, 110, 110, 97]) = 0 := by decide +kernel
theorem ex2 : dist sW [97, 110, 110, 97] [111, 110, 110, 97] = 3 ∧ errn (ok3 sW [97, 110, 110, 97] [111, 110, 110, 97]) = 0 := by decide +kernel
theorem ex3 : dist sW [97, 98] [98, 97] = 1 ∧ errn (ok3 sW [97, 98] [98, 97]) = 0 ∧ bestL sW [97, 98] [98, 97] = [5] := by decide +kernel
theorem ex4 : dist sW [97, 98, 99] [97, 99] = 2 ∧ errn (ok3 sW [97, 98, 99] [97, 99]) = 0 ∧ bestL sW [97, 98, 99] [97, 99] = [1, 4, 1] := by decide +kernel
theorem ex5 : ahead sW [97, 110, 110, 97] [101, 110] = 1 ∧ errn (ok3 sW [97, 110, 110, 97] [101, 110]) = 0 := by decide +kernel
theorem ex6 : ahead sW [97, 110, 110, 97] [110] = 1 ∧ errn (ok3 sW [97, 110, 110, 97] [110]) = 0 := by decide +kernel
theorem ex7 : Wt.check sW [97, 98, 99] [97, 99] [1, 4, 1] = some 2 := by decide +kernel
theorem ex8 : sW.valid = true ∧ (Wt.mk (-1) 0 0 0 []).valid = false := by decide +kernel
end Go.Proofs.Ytnpdhbagfkilkaa

/- Walks: sample, head. -/
set_option linter.unusedVariables false
set_option linter.unusedSimpArgs false
namespace Go.Proofs.Ytnpdhbagfkilkaa
open Go.RowKit

theorem Reads.of_blk {w : World} {g : Nat} {t : TypeId} {cs : Array Value} {size n : Nat} {xs : List Value} (h : Blk w g t cs) (hx : cs = xs.toArray) (hs : xs.length = n * size) : Reads w w.heap.size size (some ⟨g, 0, none⟩) n xs := by
  refine ⟨hs, fun _ => ⟨⟨g, 0, none⟩, rfl, h.lt, fun j u hu => ?_⟩⟩
  have e1 : (⟨g, 0, none⟩ : Addr).add j = ⟨g, j, none⟩ := by unfold Addr.add; split <;> simp_all
  rw [e1, h.cell, hx]
  simpa using hu
theorem Near.of_blk {w : World} {g : Nat} {t : TypeId} {cs : Array Value} {l : List (Int × Int × Int)} (h : Blk w g t cs) (hx : cs = (nearCells l).toArray) (hs : (nearCells l).length = l.length * 3) : Near w w.heap.size (some ⟨g, 0, none⟩) l.length l := ⟨rfl, Reads.of_blk h hx hs⟩
theorem Ints.of_blk {w : World} {g : Nat} {t : TypeId} {cs : Array Value} {l : List Int} (h : Blk w g t cs) (hx : cs = (l.map (Value.int .i64)).toArray) : Ints w w.heap.size (some ⟨g, 0, none⟩) l.length l := Reads.of_blk h hx (by simp)

def SampleAt (w : World) (v : Value) : Prop := ∃ A, v = wval sW A 1 1 ∧ Near w w.heap.size A 1 sW.near
set_option maxHeartbeats 400000 in
theorem sample_any (w : World) : Calls Try.prog 24 #[] w fun e w' => ∃ v, e = .returned v ∧ SampleAt w' v ∧ Below w.heap.size w w' := by
  go_enter Try.func24, Try.ntmps24
  go_wp2
  refine bodyPost_ret (results_cell_blk rfl _ _ w.heap.size 24 _ _ rfl (heap_alloc2_old _ _ _) Try.underlying24 rfl (by kernel_rfl)) rfl ⟨_, rfl, ⟨some ⟨w.heap.size + 1, 0, none⟩, rfl, ?_⟩, ?_⟩
  · exact Near.of_blk (l := sW.near) (heap_alloc2_new _ _ _) rfl rfl
  · exact ((Below.refl _ _).alloc (Nat.le_refl _) _).alloc (by simp) _

theorem lits_ints (zs : List Int) (w : World) (b : Nat) (hb : b = w.heap.size) : Ints (w.alloc (.cells (zs.map (Value.int .i64)).toArray 3)) (w.heap.size + 1) (some ⟨b, 0, none⟩) zs.length zs := by
  subst hb
  have := Ints.of_blk (Blk.new w 3 (zs.map (Value.int .i64)).toArray) (l := zs) rfl
  simpa using this
/-- what head keeps: the weights' box and the near list; w0: the world at the box's making -/
structure HeadS (w0 w : World) (A : Option Addr) : Prop where
  box : Box w w0 sW A 1 1
  near : Near w w0.heap.size A 1 sW.near
theorem HeadS.next {w0 w w' : World} {A : Option Addr} (h : HeadS w0 w A) (hb : Below w.heap.size w w') : HeadS w0 w' A :=
  ⟨h.box.next hb, h.near.below hb h.box.bel.size⟩
theorem HeadS.start {w0 : World} {A : Option Addr} (h : Near w0 w0.heap.size A 1 sW.near) : HeadS w0 (w0.alloc (.cells #[.int .i64 2, .int .i64 2, .int .i64 3, .int .i64 1, .slice A 1 1] 24)) A :=
  ⟨Box.start w0 sW A 1 1, h.below ((Below.refl _ _).alloc (Nat.le_refl _) _) (Nat.le_refl _)⟩
def hW (A : Option Addr) : Value := .agg #[.int .i64 2, .int .i64 2, .int .i64 3, .int .i64 1, .slice A 1 1]
theorem hd_dist {w0 w : World} {A : Option Addr} (H : HeadS w0 w A) (x y : ByteArray) (d : Int) (hx : x.size ≤ maxLen) (hy : y.size ≤ maxLen) (e : dist sW x.data.toList y.data.toList = d ∧ errn (ok3 sW x.data.toList y.data.toList) = 0) :
    Calls Try.prog 12 #[hW A, .string x, .string y] w fun e w' => e = .returned (.tuple #[.int .i64 d, .int .i64 0]) ∧ HeadS w0 w' A := by
  obtain ⟨e1, e2⟩ := e
  refine (distance_any sW A 1 1 w0.heap.size x y w H.near H.box.bel.size (by omega) hx hy).mono ?_
  rintro e w' ⟨rfl, hb⟩
  rw [e1, e2]
  exact ⟨rfl, H.next hb⟩
theorem hd_best {w0 w : World} {A : Option Addr} (H : HeadS w0 w A) (x y : ByteArray) (d : Int) (l : List Int) (hx : x.size ≤ maxLen) (hy : y.size ≤ maxLen) (e : dist sW x.data.toList y.data.toList = d ∧ errn (ok3 sW x.data.toList y.data.toList) = 0 ∧ bestL sW x.data.toList y.data.toList = l) :
    Calls Try.prog 14 #[hW A, .string x, .string y] w fun e w' => ∃ v, e = .returned (.tuple #[v, .int .i64 d, .int .i64 0]) ∧ IntsV w' v l ∧ Below w.heap.size w w' ∧ HeadS w0 w' A := by
  obtain ⟨e1, e2, e3⟩ := e
  refine (best_any sW A 1 1 w0.heap.size x y w H.near H.box.bel.size (by omega) hx hy).mono ?_
  rintro e w' ⟨v, rfl, hv, hb⟩
  rw [e3] at hv
  rw [e1, e2]
  exact ⟨v, rfl, hv, hb, H.next hb⟩
theorem hd_ahead {w0 w : World} {A : Option Addr} (H : HeadS w0 w A) (x y : ByteArray) (d : Int) (hx : x.size ≤ maxLen) (hy : y.size ≤ maxLen) (e : ahead sW x.data.toList y.data.toList = d ∧ errn (ok3 sW x.data.toList y.data.toList) = 0) :
    Calls Try.prog 16 #[hW A, .string x, .string y] w fun e w' => e = .returned (.tuple #[.int .i64 d, .int .i64 0]) ∧ Below w.heap.size w w' ∧ HeadS w0 w' A := by
  obtain ⟨e1, e2⟩ := e
  refine (ahead_any sW A 1 1 w0.heap.size x y w H.near H.box.bel.size (by omega) hx hy).mono ?_
  rintro e w' ⟨rfl, hb⟩
  rw [e1, e2]
  exact ⟨rfl, hb, H.next hb⟩
/-- a list of numbers that lies below what is made from now on -/
def Keep (w : World) (A : Option Addr) (n : Nat) (l : List Int) : Prop := Ints w w.heap.size A n l
theorem Keep.next {w w' : World} {A : Option Addr} {n : Nat} {l : List Int} (h : Keep w A n l) (hb : Below w.heap.size w w') : Keep w' A n l := (Ints.below h hb (Nat.le_refl _)).more hb.size
theorem Keep.alloc {w : World} {A : Option Addr} {n : Nat} {l : List Int} (h : Keep w A n l) (o : Obj) : Keep (w.alloc o) A n l := h.next ((Below.refl _ _).alloc (Nat.le_refl _) _)
theorem Keep.drewN {w : World} {A : Option Addr} {n : Nat} {l : List Int} (h : Keep w A n l) (k : Nat) : Keep (w.drewN k) A n l := h.next (below_drewN (Below.refl _ _) k)
theorem HeadS.alloc {w0 w : World} {A : Option Addr} (h : HeadS w0 w A) (o : Obj) : HeadS w0 (w.alloc o) A := h.next ((Below.refl _ _).alloc (Nat.le_refl _) _)
theorem HeadS.drewN {w0 w : World} {A : Option Addr} (h : HeadS w0 w A) (k : Nat) : HeadS w0 (w.drewN k) A := h.next (below_drewN (Below.refl _ _) k)
theorem HeadS.facts {w0 w : World} {A : Option Addr} (h : HeadS w0 w A) : w.cell? ⟨w0.heap.size, 0, none⟩ = some (.int .i64 2) ∧ w.cell? ⟨w0.heap.size, 1, none⟩ = some (.int .i64 2) ∧ w.cell? ⟨w0.heap.size, 2, none⟩ = some (.int .i64 3) ∧ w.cell? ⟨w0.heap.size, 3, none⟩ = some (.int .i64 1) ∧ w.cell? ⟨w0.heap.size, 4, none⟩ = some (.slice A 1 1) := h.box.facts
theorem hd_check {w0 w : World} {A : Option Addr} (H : HeadS w0 w A) (b : Nat) (hb : b = w.heap.size) :
    Calls Try.prog 18 #[hW A, .string ⟨#[97, 98, 99]⟩, .string ⟨#[97, 99]⟩, .slice (some ⟨b, 0, none⟩) 3 3] (w.alloc (.cells #[.int .i64 1, .int .i64 4, .int .i64 1] 3)) fun e w' => e = .returned (.tuple #[.int .i64 2, .bool true]) ∧ Below w.heap.size w w' ∧ HeadS w0 w' A := by
  have hi : Ints (w.alloc (.cells #[.int .i64 1, .int .i64 4, .int .i64 1] 3)) (w.heap.size + 1) (some ⟨b, 0, none⟩) 3 [1, 4, 1] := lits_ints [1, 4, 1] w b hb
  have H' := H.alloc (.cells #[.int .i64 1, .int .i64 4, .int .i64 1] 3)
  refine (check_any sW A 1 1 (w.heap.size + 1) ⟨#[97, 98, 99]⟩ ⟨#[97, 99]⟩ (some ⟨b, 0, none⟩) 3 3 [1, 4, 1] _ (H'.near.more (by have := H.box.bel.size; omega)) (by simp) (by omega) (by decide) (by decide) hi (by omega)).mono ?_
  rintro e w' ⟨rfl, hb⟩
  have e1 : Wt.check sW (ByteArray.mk #[97, 98, 99]).data.toList (ByteArray.mk #[97, 99]).data.toList [1, 4, 1] = some 2 := ex7
  rw [e1]
  exact ⟨rfl, ((Below.refl _ _).alloc (Nat.le_refl _) _).trans (hb.mono (by simp)), H'.next hb⟩
theorem hd_ints (l : List Int) {w : World} {A : Option Addr} {n : Nat} (h : Keep w A n l) (b c : Nat) (hb : b = w.heap.size) (hn : n = l.length) (hl : l.length ≤ 1000) :
    Calls Try.prog 22 #[.slice A n c, .slice (some ⟨b, 0, none⟩) l.length l.length] (w.alloc (.cells (l.map (Value.int .i64)).toArray 3)) fun e w' => e = .returned (.bool true) ∧ Below w.heap.size w w' := by
  refine (ints_any A (some ⟨b, 0, none⟩) n l.length c l.length l l (w.heap.size + 1) _ ((h.alloc _).more (by simp)) (lits_ints l w b hb) (by omega) (by omega)).mono ?_
  rintro e w' ⟨rfl, k, rfl⟩
  exact ⟨by simp, below_drewN ((Below.refl _ _).alloc (Nat.le_refl _) _) k⟩
theorem hd_ints1 {w : World} {A : Option Addr} (h : Keep w A 1 [5]) (b c : Nat) (hb : b = w.heap.size) :
    Calls Try.prog 22 #[.slice A 1 c, .slice (some ⟨b, 0, none⟩) 1 1] (w.alloc (.cells #[.int .i64 5] 3)) fun e w' => e = .returned (.bool true) ∧ Below w.heap.size w w' := hd_ints [5] h b c hb rfl (by simp)
theorem hd_ints3 {w : World} {A : Option Addr} (h : Keep w A 3 [1, 4, 1]) (b c : Nat) (hb : b = w.heap.size) :
    Calls Try.prog 22 #[.slice A 3 c, .slice (some ⟨b, 0, none⟩) 3 3] (w.alloc (.cells #[.int .i64 1, .int .i64 4, .int .i64 1] 3)) fun e w' => e = .returned (.bool true) ∧ Below w.heap.size w w' := hd_ints [1, 4, 1] h b c hb rfl (by simp)
theorem hd_valid {w0 w : World} {A : Option Addr} (H : HeadS w0 w A) : Calls Try.prog 20 #[hW A] w fun e w' => e = .returned (.bool true) ∧ Below w.heap.size w w' ∧ HeadS w0 w' A := by
  refine (valid_try sW A 1 1 w0.heap.size w H.near H.box.bel.size (by omega)).mono ?_
  rintro e w' ⟨rfl, hb⟩
  rw [ex8.1]
  exact ⟨rfl, hb, H.next hb⟩
theorem hd_not (w : World) : Calls Try.prog 20 #[.agg #[.int .i64 (-1), .int .i64 0, .int .i64 0, .int .i64 0, .slice none 0 0]] w fun e w' => e = .returned (.bool false) ∧ Below w.heap.size w w' := by
  refine (valid_try ⟨-1, 0, 0, 0, []⟩ none 0 0 w.heap.size w ⟨rfl, Reads.none_⟩ (Nat.le_refl _) (by omega)).mono ?_
  rintro e w' ⟨rfl, hb⟩
  rw [ex8.2]
  exact ⟨rfl, hb⟩

set_option maxHeartbeats 4000000 in
set_option maxRecDepth 100000 in
theorem head_any (w : World) : Calls Try.prog 10 #[] w fun e w' => e = .returned (.bool true) ∧ Below w.heap.size w w' := by
  go_enter Try.func10, Try.ntmps10
  go_wp2_with (first
    | (go_at_call 24; refine (sample_any _).mono ?_; rintro e w0 ⟨v, rfl, ⟨A, rfl, hn⟩, hb⟩; have HB := hide hb.size; have HC := hide hb; have HS := hide (HeadS.start hn); clear hn hb; unfold wval sW))
  refine (hd_dist HS.out ⟨#[97, 110, 110, 97]⟩ ⟨#[101, 110, 110, 97]⟩ 1 (by decide) (by decide) ex1).mono ?_
  rintro e w1 ⟨rfl, hs⟩
  have HT := hide hs; clear HS hs
  obtain ⟨d0, d1, d2, d3, d4⟩ := HT.out.facts
  go_wp2_with fail
  refine (hd_dist HT.out ⟨#[97, 110, 110, 97]⟩ ⟨#[111, 110, 110, 97]⟩ 3 (by decide) (by decide) ex2).mono ?_
  rintro e w2 ⟨rfl, hs⟩
  have HS := hide hs; clear HT hs d0 d1 d2 d3 d4
  obtain ⟨d0, d1, d2, d3, d4⟩ := HS.out.facts
  go_wp2_with fail
  refine (hd_best HS.out ⟨#[97, 98]⟩ ⟨#[98, 97]⟩ 1 [5] (by decide) (by decide) ex3).mono ?_
  rintro e w3 ⟨v, rfl, ⟨A1, c1, rfl, hi⟩, hb, hs⟩
  have HT := hide hs; have HI : Hid (Keep w3 A1 1 [5]) := hi; clear HS hs hi hb d0 d1 d2 d3 d4
  obtain ⟨d0, d1, d2, d3, d4⟩ := HT.out.facts
  simp only [List.length_cons, List.length_nil, Nat.zero_add]
  go_wp2_with fail
  refine (hd_best HT.out ⟨#[97, 98, 99]⟩ ⟨#[97, 99]⟩ 2 [1, 4, 1] (by decide) (by decide) ex4).mono ?_
  rintro e w4 ⟨v, rfl, ⟨A2, c2, rfl, hi⟩, hb, hs⟩
  have HS := hide hs; have HJ : Hid (Keep w4 A2 3 [1, 4, 1]) := hi; have HI' := hide (HI.out.next hb); clear HI; have HI := HI'; clear HT HI' hs hi hb d0 d1 d2 d3 d4
  obtain ⟨d0, d1, d2, d3, d4⟩ := HS.out.facts
  simp only [List.length_cons, List.length_nil, Nat.zero_add]
  go_wp2_with fail
  refine (hd_ahead HS.out ⟨#[97, 110, 110, 97]⟩ ⟨#[101, 110]⟩ 1 (by decide) (by decide) ex5).mono ?_
  rintro e w5 ⟨rfl, hb, hs⟩
  have HT := hide hs; have HI' := hide (HI.out.next hb); have HJ' := hide (HJ.out.next hb); clear HI HJ; have HI := HI'; have HJ := HJ'; clear HS HI' HJ' hs hb d0 d1 d2 d3 d4
  obtain ⟨d0, d1, d2, d3, d4⟩ := HT.out.facts
  go_wp2_with fail
  refine (hd_ahead HT.out ⟨#[97, 110, 110, 97]⟩ ⟨#[110]⟩ 1 (by decide) (by decide) ex6).mono ?_
  rintro e w6 ⟨rfl, hb, hs⟩
  have HS := hide hs; have HI' := hide (HI.out.next hb); have HJ' := hide (HJ.out.next hb); clear HI HJ; have HI := HI'; have HJ := HJ'; clear HT HI' HJ' hs hb d0 d1 d2 d3 d4
  obtain ⟨d0, d1, d2, d3, d4⟩ := HS.out.facts
  go_wp2_with fail
  refine (hd_check HS.out _ rfl).mono ?_
  rintro e w7 ⟨rfl, hb, hs⟩
  have HT := hide hs; have HI' := hide (HI.out.next hb); have HJ' := hide (HJ.out.next hb); clear HI HJ; have HI := HI'; have HJ := HJ'; clear HS HI' HJ' hs hb d0 d1 d2 d3 d4
  go_wp2_with fail
  refine (hd_ints1 HI.out _ c1 rfl).mono ?_
  rintro e w8 ⟨rfl, hb⟩
  have HS := hide (HT.out.next hb); have HJ' := hide (HJ.out.next hb); clear HI HJ; have HJ := HJ'; clear HT HJ' hb
  go_wp2_with fail
  refine (hd_ints3 HJ.out _ c2 rfl).mono ?_
  rintro e w9 ⟨rfl, hb⟩
  have HT := hide (HS.out.next hb); clear HJ HS hb
  obtain ⟨d0, d1, d2, d3, d4⟩ := HT.out.facts
  go_wp2_with fail
  refine (hd_valid HT.out).mono ?_
  rintro e w10 ⟨rfl, hb, hs⟩
  have HS := hide hs; clear HT hb hs d0 d1 d2 d3 d4
  go_wp2_with fail
  refine (hd_not _).mono ?_
  rintro e w11 ⟨rfl, hb⟩
  have HT := hide (HS.out.next hb); clear HS hb
  go_wp2
  go_ret
  exact ⟨rfl, HC.out.trans (HT.out.box.bel.mono HB.out)⟩
end Go.Proofs.Ytnpdhbagfkilkaa

/- The plain side: the laws on Best and Check, on the distance. -/
set_option linter.unusedVariables false
set_option linter.unusedSimpArgs false
namespace Go.Proofs.Ytnpdhbagfkilkaa

/-- one list of kinds is less than another one -/
def beforeL : List Int → List Int → Bool
  | a :: l, b :: m => if a ≠ b then decide (a < b) else beforeL l m
  | [], b => decide (0 < b.length)
  | _ :: _, [] => false

namespace Wt
end Wt

/-! the other direction -/
/-! parts -/
end Go.Proofs.Ytnpdhbagfkilkaa

/- Walks: Before. -/
set_option linter.unusedVariables false
set_option linter.unusedSimpArgs false
namespace Go.Proofs.Ytnpdhbagfkilkaa
open Go.RowKit

end Go.Proofs.Ytnpdhbagfkilkaa

/- The plain side: the laws on Ahead. -/
set_option linter.unusedVariables false
set_option linter.unusedSimpArgs false
namespace Go.Proofs.Ytnpdhbagfkilkaa
namespace Wt

end Wt

theorem ok3_split {W : Wt} {x y : List UInt8} (h : ok3 W x y = true) : W.valid = true ∧ x.length ≤ 120 ∧ y.length ≤ 120 := by
  simp only [ok3, Bool.and_eq_true] at h
  exact ⟨h.1.1, okText_len h.1.2, okText_len h.2⟩
end Go.Proofs.Ytnpdhbagfkilkaa

/- The plain side: greater weights. -/
set_option linter.unusedVariables false
set_option linter.unusedSimpArgs false
namespace Go.Proofs.Ytnpdhbagfkilkaa
namespace Wt
theorem Al.more {W V : Wt} (h1 : W.ins ≤ V.ins) (h2 : W.del ≤ V.del) (h3 : W.swp ≤ V.swp) (h4 : ∀ a b, W.cc a b ≤ V.cc a b) {x y : List UInt8} {c : Int} (h : Al V x y c) : ∃ d, d ≤ c ∧ Al W x y d := by
  induction h with
  | nil => exact ⟨0, Int.le_refl _, Al.nil⟩
  | same a _ ih => obtain ⟨d, hd, h⟩ := ih; exact ⟨d, hd, Al.same a h⟩
  | chg a b hab _ ih => obtain ⟨d, hd, h⟩ := ih; exact ⟨_, by have := h4 a b; omega, Al.chg a b hab h⟩
  | ins b _ ih => obtain ⟨d, hd, h⟩ := ih; exact ⟨_, by omega, Al.ins b h⟩
  | del a _ ih => obtain ⟨d, hd, h⟩ := ih; exact ⟨_, by omega, Al.del a h⟩
  | swp a b hab _ ih => obtain ⟨d, hd, h⟩ := ih; exact ⟨_, by omega, Al.swp a b hab h⟩
def fitsN (a b : Int) (n : Int × Int × Int) : Bool := (n.1 == a && n.2.1 == b) || (n.1 == b && n.2.1 == a)
/-- without an element of Near -/
def less (W : Wt) (k : Nat) : Wt := { W with near := W.near.take k ++ W.near.drop (k + 1) }
/-- with a number added to one of the weights, or without an element of Near -/
def turned (W : Wt) (q b : Nat) : Wt :=
  if q = 0 then { W with ins := W.ins + b } else if q = 1 then { W with del := W.del + b } else if q = 2 then { W with chg := W.chg + b } else if q = 3 then { W with swp := W.swp + b }
  else if 0 < W.near.length then W.less (b % W.near.length) else W
end Wt
end Go.Proofs.Ytnpdhbagfkilkaa

/- Walks: what all the laws share; EditLeast. -/
set_option linter.unusedVariables false
set_option linter.unusedSimpArgs false
namespace Go.Proofs.Ytnpdhbagfkilkaa
open Go.RowKit

/-- what a law keeps: the weights' box and the near list; w: the world at the call -/
structure LawS (w wc : World) (W : Wt) (A : Option Addr) (n c : Nat) : Prop where
  box : Box wc w W A n c
  near : Near wc w.heap.size A n W.near
section
variable {w wc w' : World} {W : Wt} {A : Option Addr} {n c : Nat}
theorem LawS.start (h : Near w w.heap.size A n W.near) : LawS w (w.alloc (.cells #[.int .i64 W.ins, .int .i64 W.del, .int .i64 W.chg, .int .i64 W.swp, .slice A n c] 24)) W A n c :=
  ⟨Box.start w W A n c, h.below ((Below.refl _ _).alloc (Nat.le_refl _) _) (Nat.le_refl _)⟩
theorem LawS.next (h : LawS w wc W A n c) (hb : Below wc.heap.size wc w') : LawS w w' W A n c := ⟨h.box.next hb, h.near.below hb h.box.bel.size⟩
theorem LawS.alloc (h : LawS w wc W A n c) (o : Obj) : LawS w (wc.alloc o) W A n c := h.next ((Below.refl _ _).alloc (Nat.le_refl _) _)
theorem LawS.drewN (h : LawS w wc W A n c) (k : Nat) : LawS w (wc.drewN k) W A n c := h.next (below_drewN (Below.refl _ _) k)
theorem LawS.facts (h : LawS w wc W A n c) : wc.cell? ⟨w.heap.size, 0, none⟩ = some (.int .i64 W.ins) ∧ wc.cell? ⟨w.heap.size, 1, none⟩ = some (.int .i64 W.del) ∧ wc.cell? ⟨w.heap.size, 2, none⟩ = some (.int .i64 W.chg) ∧ wc.cell? ⟨w.heap.size, 3, none⟩ = some (.int .i64 W.swp) ∧ wc.cell? ⟨w.heap.size, 4, none⟩ = some (.slice A n c) := h.box.facts
theorem LawS.bel (h : LawS w wc W A n c) : Below w.heap.size w wc := h.box.bel
theorem lw_head (h : LawS w wc W A n c) : Calls Try.prog 10 #[] wc fun e w' => e = .returned (.bool true) ∧ LawS w w' W A n c :=
  (head_any wc).mono fun _ _ ⟨h1, h2⟩ => ⟨h1, h.next h2⟩
theorem strs_cells (W : World) (zs : List ByteArray) (b : Nat) (hb : b = W.heap.size) : ∀ j, j < zs.length → (W.alloc (.cells (zs.map Value.string).toArray 9)).cell? ⟨b, j, none⟩ = some (.string (zs.getD j ⟨#[]⟩)) := by
  subst hb
  intro j hj
  rw [(Blk.new W 9 (zs.map Value.string).toArray).cell]
  simp [hj, List.getD_eq_getElem?_getD]
theorem lw_few (h : LawS w wc W A n c) (hn : n ≤ 140737488355328) (zs : List ByteArray) (b k : Nat) (hb : b = wc.heap.size) (hk : zs.length = k) (hk2 : k ≤ 1000) (hz : ∀ z ∈ zs, z.size ≤ maxLen) :
    Calls Try.prog 11 #[wval W A n c, .slice (some ⟨b, 0, none⟩) k k] (wc.alloc (.cells (zs.map Value.string).toArray 9)) fun e w' => e = .returned (.bool (fewB zs n)) ∧ LawS w w' W A n c :=
  (few_any W A n c b k zs _ hn hk hk2 hz (by subst hb; simp) (by subst hk; exact strs_cells wc zs b hb)).mono fun _ _ ⟨h1, h2⟩ => ⟨h1, (h.alloc _).next h2⟩
theorem lw_few2 (h : LawS w wc W A n c) (hn : n ≤ 140737488355328) (x y : ByteArray) (hx : x.size ≤ maxLen) (hy : y.size ≤ maxLen) (b : Nat) (hb : b = wc.heap.size) :
    Calls Try.prog 11 #[wval W A n c, .slice (some ⟨b, 0, none⟩) 2 2] (wc.alloc (.cells #[.string x, .string y] 9)) fun e w' => e = .returned (.bool (fewB [x, y] n)) ∧ LawS w w' W A n c :=
  lw_few h hn [x, y] b 2 hb rfl (by omega) (by simp [hx, hy])
theorem lw_dist (h : LawS w wc W A n c) (hn : n ≤ 140737488355328) (x y : ByteArray) (hx : x.size ≤ maxLen) (hy : y.size ≤ maxLen) :
    Calls Try.prog 12 #[wval W A n c, .string x, .string y] wc fun e w' => e = .returned (.tuple #[.int .i64 (dist W x.data.toList y.data.toList), .int .i64 (errn (ok3 W x.data.toList y.data.toList))]) ∧ Below wc.heap.size wc w' ∧ LawS w w' W A n c :=
  (distance_any W A n c w.heap.size x y wc h.near h.bel.size hn hx hy).mono fun _ _ ⟨h1, h2⟩ => ⟨h1, h2, h.next h2⟩
theorem lw_best (h : LawS w wc W A n c) (hn : n ≤ 140737488355328) (x y : ByteArray) (hx : x.size ≤ maxLen) (hy : y.size ≤ maxLen) :
    Calls Try.prog 14 #[wval W A n c, .string x, .string y] wc fun e w' => ∃ v, e = .returned (.tuple #[v, .int .i64 (dist W x.data.toList y.data.toList), .int .i64 (errn (ok3 W x.data.toList y.data.toList))]) ∧ IntsV w' v (bestL W x.data.toList y.data.toList) ∧ Below wc.heap.size wc w' ∧ LawS w w' W A n c :=
  (best_any W A n c w.heap.size x y wc h.near h.bel.size hn hx hy).mono fun _ _ ⟨v, h1, h2, h3⟩ => ⟨v, h1, h2, h3, h.next h3⟩
theorem lw_ahead (h : LawS w wc W A n c) (hn : n ≤ 140737488355328) (x y : ByteArray) (hx : x.size ≤ maxLen) (hy : y.size ≤ maxLen) :
    Calls Try.prog 16 #[wval W A n c, .string x, .string y] wc fun e w' => e = .returned (.tuple #[.int .i64 (ahead W x.data.toList y.data.toList), .int .i64 (errn (ok3 W x.data.toList y.data.toList))]) ∧ Below wc.heap.size wc w' ∧ LawS w w' W A n c :=
  (ahead_any W A n c w.heap.size x y wc h.near h.bel.size hn hx hy).mono fun _ _ ⟨h1, h2⟩ => ⟨h1, h2, h.next h2⟩
theorem lw_check (h : LawS w wc W A n c) (hn : n ≤ 140737488355328) (x y : ByteArray) (hx : x.size ≤ maxLen) (hy : y.size ≤ maxLen) {E : Option Addr} {ne : Nat} (ce : Nat) {l : List Int} (hE : Keep wc E ne l) (hne : ne ≤ 140737488355328) :
    Calls Try.prog 18 #[wval W A n c, .string x, .string y, .slice E ne ce] wc fun e w' => e = .returned (.tuple #[.int .i64 ((Wt.check W x.data.toList y.data.toList l).getD 0), .bool (Wt.check W x.data.toList y.data.toList l).isSome]) ∧ Below wc.heap.size wc w' ∧ LawS w w' W A n c :=
  (check_any W A n c wc.heap.size x y E ne ce l wc (h.near.more h.bel.size) (Nat.le_refl _) hn hx hy hE hne).mono fun _ _ ⟨h1, h2⟩ => ⟨h1, h2, h.next h2⟩
end
theorem bestL_len {W : Wt} {x y : List UInt8} : (bestL W x y).length ≤ 240 := by
  unfold bestL
  by_cases h : ok3 W x y = true
  · rw [if_pos h]
    obtain ⟨h1, h2, h3⟩ := ok3_split h
    have : ∀ n i j, (Wt.bestF W x y n i j).length ≤ n := by
      intro n
      induction n with
      | zero => intro i j; simp [Wt.bestF]
      | succ n ih => intro i j; unfold Wt.bestF; split; · simp; exact ih _ _
                     · simp
    unfold Wt.G
    have := this (Wt.rem x y 0 0) 0 0
    have : Wt.rem x y 0 0 ≤ 240 := by unfold Wt.rem; omega
    omega
  · simp [h]
end Go.Proofs.Ytnpdhbagfkilkaa

/- Walks: EditTurns. -/
set_option linter.unusedVariables false
set_option linter.unusedSimpArgs false
namespace Go.Proofs.Ytnpdhbagfkilkaa
open Go.RowKit

theorem LawS.setFar {w wc : World} {W : Wt} {A : Option Addr} {n c : Nat} (h : LawS w wc W A n c) {p : Addr} (hp : w.heap.size < p.block) (u : Value) : LawS w (wc.setCell p u) W A n c :=
  ⟨⟨h.box.blk.far (by omega) u, h.bel.setCell (by omega) u⟩, h.near.below ((Below.refl w.heap.size wc).setCell (by omega) u) (Nat.le_refl _)⟩

end Go.Proofs.Ytnpdhbagfkilkaa

/- What came in: weights. -/
set_option linter.unusedVariables false
set_option linter.unusedSimpArgs false
namespace Go.Proofs.Ytnpdhbagfkilkaa
open Go.RowKit Go.ChangeShapes Go.WideShapes Go.Deep

section
variable {H : Type} {enc : TypeId × Value → H} {w : World} {cs : List Value}
theorem nearCells_len (l : List (Int × Int × Int)) : (nearCells l).length = l.length * 3 := by
  induction l with
  | nil => rfl
  | cons a l ih => simp only [nearCells, List.flatMap_cons, List.length_append, List.length_cons, List.length_nil] at ih ⊢; omega
theorem came_int3 (h : CameC enc Try.prog w 63 cs) : ∃ a b c : Int, cs = [.int .i64 a, .int .i64 b, .int .i64 c] := by
  obtain ⟨h1, h2⟩ := h.fields Try.underlying63 (by kernel_rfl) (by kernel_rfl)
  obtain ⟨v0, e0, c0⟩ := h2 0 _ rfl
  obtain ⟨v1, e1, c1⟩ := h2 1 _ rfl
  obtain ⟨v2, e2, c2⟩ := h2 2 _ rfl
  obtain ⟨a, ea, _⟩ := c0.int Try.underlying3
  obtain ⟨b, eb, _⟩ := c1.int Try.underlying3
  obtain ⟨c, ec, _⟩ := c2.int Try.underlying3
  simp at ea eb ec
  subst ea eb ec
  have h1' : cs.length = 3 := h1
  match cs, h1' with
  | [x, y, z], _ =>
    simp at e0 e1 e2
    exact ⟨a, b, c, by rw [e0, e1, e2]⟩

theorem came_near (h : CameC enc Try.prog w 22 cs) : ∃ (A : Option Addr) (n c : Nat) (l : List (Int × Int × Int)), cs = [.slice A n c] ∧ Near w w.heap.size A n l ∧ c * 24 ≤ reachBytes ∧ n ≤ c := by
  rcases h.slice Try.underlying22 with rfl | ⟨a, n, c, rfl, hl, hb, _, hi⟩
  · exact ⟨none, 0, 0, [], rfl, ⟨rfl, Reads.none_⟩, by omega, Nat.le_refl _⟩
  · have e3 : Try.prog.cellsOf 63 = 3 := by kernel_rfl
    have eb : Try.prog.bytesOf 63 = 24 := by kernel_rfl
    rw [e3] at hi
    rw [eb] at hb
    have hz : ∀ i, ∃ z : Int × Int × Int, i < n → w.cell? (a.add (i * 3)) = some (.int .i64 z.1) ∧ w.cell? (a.add (i * 3 + 1)) = some (.int .i64 z.2.1) ∧ w.cell? (a.add (i * 3 + 2)) = some (.int .i64 z.2.2) := fun i => by
      by_cases h : i < n
      · obtain ⟨cs', hl', hat, hcm⟩ := hi i h
        obtain ⟨x, y, z, rfl⟩ := came_int3 hcm
        exact ⟨(x, y, z), fun _ => ⟨hat 0 (by omega), hat 1 (by omega), hat 2 (by omega)⟩⟩
      · exact ⟨(0, 0, 0), fun h' => absurd h' h⟩
    obtain ⟨g, hg⟩ := Classical.axiomOfChoice hz
    have hll : ((List.range n).map g).length = n := by simp
    refine ⟨some a, n, c, (List.range n).map g, rfl, ⟨hll, ?_, fun h0 => ⟨a, rfl, ?_, fun j u hu => ?_⟩⟩, hb, hl⟩
    · rw [nearCells_len, hll]
    · have := World.block_lt_of_cell? w _ (hg 0 h0).1
      rwa [block_of_add] at this
    · have hj : j / 3 < n := by
        have h1 := (List.getElem?_eq_some_iff.1 hu).1
        have h2 : (nearCells ((List.range n).map g)).length = n * 3 := by rw [nearCells_len, hll]
        omega
      obtain ⟨q1, q2, q3⟩ := nearCells_get ((List.range n).map g) (j / 3) (by rw [hll]; exact hj)
      obtain ⟨p1, p2, p3⟩ := hg (j / 3) hj
      simp only [List.getElem_map, List.getElem_range] at q1 q2 q3
      have h3 : j = j / 3 * 3 ∨ j = j / 3 * 3 + 1 ∨ j = j / 3 * 3 + 2 := by omega
      rcases h3 with h3 | h3 | h3
      · rw [← h3] at q1 p1; rw [hu] at q1; rw [q1, p1]
      · rw [← h3] at q2 p2; rw [hu] at q2; rw [q2, p2]
      · rw [← h3] at q3 p3; rw [hu] at q3; rw [q3, p3]

theorem came_wts (h : CameC enc Try.prog w 24 cs) : ∃ (W : Wt) (A : Option Addr) (n c : Nat), cs = [.int .i64 W.ins, .int .i64 W.del, .int .i64 W.chg, .int .i64 W.swp, .slice A n c] ∧ Near w w.heap.size A n W.near ∧ n ≤ 140737488355328 ∧ n ≤ c := by
  obtain ⟨h1, h2⟩ := h.fields Try.underlying24 (by kernel_rfl) (by kernel_rfl)
  obtain ⟨v0, e0, c0⟩ := h2 0 _ rfl
  obtain ⟨v1, e1, c1⟩ := h2 1 _ rfl
  obtain ⟨v2, e2, c2⟩ := h2 2 _ rfl
  obtain ⟨v3, e3, c3⟩ := h2 3 _ rfl
  obtain ⟨v4, e4, c4⟩ := h2 4 _ rfl
  obtain ⟨x0, g0, w0⟩ := c0.int Try.underlying3
  obtain ⟨x1, g1, _⟩ := c1.int Try.underlying3
  obtain ⟨x2, g2, _⟩ := c2.int Try.underlying3
  obtain ⟨x3, g3, _⟩ := c3.int Try.underlying3
  obtain ⟨A, n, c, l, g4, hN, hc, hn⟩ := came_near c4
  simp only [List.cons.injEq, and_true] at g0 g1 g2 g3 g4
  subst g0 g1 g2 g3 g4
  have h1' : cs.length = 5 := h1
  match cs, h1' with
  | [y0, y1, y2, y3, y4], _ =>
    simp at e0 e1 e2 e3 e4
    refine ⟨⟨x0, x1, x2, x3, l⟩, A, n, c, by rw [e0, e1, e2, e3, e4], hN, by unfold reachBytes at hc; omega, hn⟩
end
end Go.Proofs.Ytnpdhbagfkilkaa

/- Walks: EditWeights. -/
set_option linter.unusedVariables false
set_option linter.unusedSimpArgs false
namespace Go.Proofs.Ytnpdhbagfkilkaa
open Go.RowKit

/-- the law's own copy of the weights, in a block behind the box -/
structure Own (w wc : World) (W V : Wt) (A A' : Option Addr) (n c n' c' b : Nat) : Prop where
  law : LawS w wc W A n c
  blk : Blk wc b 24 (wCells V A' n' c')
  far : w.heap.size < b
section
variable {w wc w' : World} {W V : Wt} {A A' : Option Addr} {n c n' c' b : Nat}
theorem Own.next (h : Own w wc W V A A' n c n' c' b) (hb : Below wc.heap.size wc w') : Own w w' W V A A' n c n' c' b :=
  ⟨h.law.next hb, h.blk.below hb h.blk.lt, h.far⟩
theorem Own.start (h : LawS w wc W A n c) : Own w (wc.alloc (.cells #[.int .i64 W.ins, .int .i64 W.del, .int .i64 W.chg, .int .i64 W.swp, .slice A n c] 24)) W W A A n c n c wc.heap.size :=
  ⟨h.alloc _, Blk.new _ _ _, h.box.blk.lt⟩
theorem Own.facts (h : Own w wc W V A A' n c n' c' b) : wc.cell? ⟨b, 0, none⟩ = some (.int .i64 V.ins) ∧ wc.cell? ⟨b, 1, none⟩ = some (.int .i64 V.del) ∧ wc.cell? ⟨b, 2, none⟩ = some (.int .i64 V.chg) ∧ wc.cell? ⟨b, 3, none⟩ = some (.int .i64 V.swp) ∧ wc.cell? ⟨b, 4, none⟩ = some (.slice A' n' c') :=
  ⟨h.blk.cell 0, h.blk.cell 1, h.blk.cell 2, h.blk.cell 3, h.blk.cell 4⟩
theorem Own.put {A'' : Option Addr} {n'' c'' : Nat} (h : Own w wc W V A A' n c n' c' b) (j : Nat) (u : Value) (V' : Wt) (hv : (wCells V A' n' c').setIfInBounds j u = wCells V' A'' n'' c'') : Own w (wc.setCell ⟨b, j, none⟩ u) W V' A A'' n c n'' c'' b :=
  ⟨h.law.setFar (p := ⟨b, j, none⟩) h.far u, by rw [← hv]; exact h.blk.set_ j u, h.far⟩
/-- the copy, as it is when the switch is over -/
def OwnF (w wc : World) (W V : Wt) (A : Option Addr) (n c b : Nat) (A' : Option Addr) (n' c' : Nat) : Prop := Own w wc W V A A' n c n' c' b ∧ Near wc wc.heap.size A' n' V.near ∧ n' ≤ 140737488355328
theorem OwnF.of (h : Own w wc W V A A n c n c b) (hv : V.near = W.near) (hn : n ≤ 140737488355328) : OwnF w wc W V A n c b A n c := ⟨h, by rw [hv]; exact h.law.near.more h.law.bel.size, hn⟩
theorem OwnF.next {b : Nat} (h : OwnF w wc W V A n c b A' n' c') (hb : Below wc.heap.size wc w') : OwnF w w' W V A n c b A' n' c' := ⟨h.1.next hb, (h.2.1.below hb (Nat.le_refl _)).more hb.size, h.2.2⟩
end

end Go.Proofs.Ytnpdhbagfkilkaa

/- A region that draws its order, walked once whatever the order: each operation owes its own fact, out of the facts of those that it waits for; memory may be made, and a box stored into. -/
set_option linter.unusedVariables false
set_option linter.unusedSimpArgs false
namespace Go.Proofs.Ytnpdhbagfkilkaa
open Go Go.RowKit

section
variable {P : Program} {ops : Array Oper} {Q : Exit → Act → World → Prop} {md : Region.Mode} {C : World → Prop} {a0 : Act}

/-- what the region does not write is as before -/
def Same (ops : Array Oper) (a0 a : Act) : Prop := a.defers = a0.defers ∧ a.tmps.size = a0.tmps.size ∧ ∀ t, (∀ (i : Nat) (o : Oper), ops[i]? = some o → o.dst ≠ some t) → a.tmps[t]? = a0.tmps[t]?
theorem Same.refl (ops : Array Oper) (a : Act) : Same ops a a := ⟨rfl, rfl, fun _ _ => rfl⟩
theorem Same.put {a : Act} (h : Same ops a0 a) {i : Nat} {o : Oper} (ho : ops[i]? = some o) (v : Value) : Same ops a0 (a.put o.dst v) := by
  obtain ⟨h1, h2, h3⟩ := h
  refine ⟨?_, ?_, fun t ht => ?_⟩
  · unfold Act.put; split <;> exact h1
  · unfold Act.put; split
    · simpa using h2
    · exact h2
  · have hne := ht i o ho
    unfold Act.put
    split
    · rename_i d hd
      have : d ≠ t := fun e => hne (by rw [hd, e])
      simp [Array.getElem?_setIfInBounds_ne this]
      exact h3 t ht
    · exact h3 t ht

/-! ### facts by lists: the values that are known ahead; what holds besides -/
def Kn (ops : Array Oper) (V : List (Option Value)) (Fs : List (Nat × (Act → World → Prop))) (i : Nat) (a : Act) (w : World) : Prop :=
  (∀ (o : Oper) (v : Value) (d : Tmp), ops[i]? = some o → V[i]? = some (some v) → o.dst = some d → a.tmps[d]? = some v) ∧ ∀ p ∈ Fs, p.1 = i → p.2 a w
/-- the region is fit for it -/
def looseB (ops : Array Oper) (n : Nat) : Bool :=
  (List.range ops.size).all fun i => match ops[i]? with
    | none => true
    | some o => (o.after.all fun e => !Region.binds .any e || decide (e.on < i)) &&
      (match o.dst with
       | none => true
       | some d => decide (d < n) && (List.range ops.size).all fun j => (i == j) || (match ops[j]? with
          | none => true
          | some oj => (oj.dst != some d) && (!(oj.looksAt ops).contains d || Region.waitsFor .any ops j i)))
/-- what operation i owes -/
def Owes (P : Program) (ops : Array Oper) (Q : Exit → Act → World → Prop) (C : World → Prop) (a0 : Act) (V : List (Option Value)) (Fs : List (Nat × (Act → World → Prop))) (Rel : Nat → World → World → Prop) (i : Nat) (o : Oper) : Prop :=
  ∀ (a : Act) (w : World) (K : Act → World → Prop), C w → Same ops a0 a → (∀ e ∈ o.after, Region.binds .any e = true → Kn ops V Fs e.on a w) →
    (∀ v w', Rel i w w' → (∀ v0, V[i]? = some (some v0) → v = v0) → (∀ p ∈ Fs, p.1 = i → p.2 (a.put o.dst v) w') → K (a.put o.dst v) w') →
    if Region.wanted o (yielded ops a.tmps) then o.wp P a w K Q else K (a.put o.dst undef) w
def AllOwe (P : Program) (ops : Array Oper) (Q : Exit → Act → World → Prop) (C : World → Prop) (a0 : Act) (V : List (Option Value)) (Fs : List (Nat × (Act → World → Prop))) (Rel : Nat → World → World → Prop) : List Oper → Nat → Prop
  | [], _ => True
  | o :: l, k => Owes P ops Q C a0 V Fs Rel k o ∧ AllOwe P ops Q C a0 V Fs Rel l (k + 1)
theorem AllOwe.at {V : List (Option Value)} {Fs : List (Nat × (Act → World → Prop))} {Rel : Nat → World → World → Prop} : ∀ (l : List Oper) (k : Nat), AllOwe P ops Q C a0 V Fs Rel l k → ∀ (j : Nat) (o : Oper), l[j]? = some o → Owes P ops Q C a0 V Fs Rel (k + j) o
  | [], _, _, j, o, ho => by simp at ho
  | x :: l, k, h, 0, o, ho => by
    simp only [List.getElem?_cons_zero, Option.some.injEq] at ho
    subst ho
    exact h.1
  | x :: l, k, h, j + 1, o, ho => by
    simp only [List.getElem?_cons_succ] at ho
    have := AllOwe.at l (k + 1) h.2 j o ho
    rwa [show k + 1 + j = k + (j + 1) by omega] at this

/-- the slots of an operation: its own and those that it looks at -/
def Oper.slots (ops : Array Oper) (i : Nat) : List Tmp := match ops[i]? with
  | none => []
  | some o => o.dst.toList ++ o.looksAt ops
end
/-! ### words for its use -/
def noDst (ops : Array Oper) (t : Tmp) : Bool := ops.all fun o => o.dst != some t
theorem Same.at {ops : Array Oper} {a0 a : Act} (h : Same ops a0 a) (t : Tmp) (hno : noDst ops t = true) {v : Value} (hv : a0.tmps[t]? = some v) : a.tmps[t]? = some v := by
  rw [h.2.2 t (fun i o ho e => by
    have := Array.all_eq_true_iff_forall_mem.1 hno o (Array.mem_of_getElem? ho)
    rw [e] at this
    simp at this)]
  exact hv
theorem Kn.at {ops : Array Oper} {V : List (Option Value)} {Fs : List (Nat × (Act → World → Prop))} {i : Nat} {a : Act} {w : World} (h : Kn ops V Fs i a w) {o : Oper} {d : Tmp} {v : Value} (ho : ops[i]? = some o) (hd : o.dst = some d) (hv : V[i]? = some (some v)) : a.tmps[d]? = some v := h.1 o v d ho hv hd
theorem vok {V : List (Option Value)} {i : Nat} {v : Value} (h : V[i]? = some (some v)) : ∀ v0, V[i]? = some (some v0) → v = v0 := fun v0 h0 => by
  rw [h] at h0
  exact Option.some.inj (Option.some.inj h0)
theorem vfree {V : List (Option Value)} {i : Nat} {v : Value} (h : V[i]? = some none) : ∀ v0, V[i]? = some (some v0) → v = v0 := fun v0 h0 => by
  rw [h] at h0
  cases h0
theorem facts_nil {i : Nat} {a : Act} {w : World} : ∀ p ∈ ([] : List (Nat × (Act → World → Prop))), p.1 = i → p.2 a w := fun p hp => by cases hp
theorem facts_cons {i j : Nat} {F : Act → World → Prop} {Fs : List (Nat × (Act → World → Prop))} {a : Act} {w : World} (h1 : j = i → F a w) (h2 : ∀ p ∈ Fs, p.1 = i → p.2 a w) : ∀ p ∈ (j, F) :: Fs, p.1 = i → p.2 a w := fun p hp hi => by
  rcases List.mem_cons.1 hp with rfl | hp
  · exact h1 hi
  · exact h2 p hp hi
section
variable {ops : Array Oper} {Rel : Nat → World → World → Prop}
end
/-- guards -/
theorem want_free {o : Oper} {f : Nat → Option Bool} (hg : o.guard = none) : Region.wanted o f = true := by unfold Region.wanted; rw [hg]
/-- the frame at the end -/
def litT (T : Array Value) : List (Tmp × Value) → Array Value
  | [] => T
  | p :: l => litT (T.setIfInBounds p.1 p.2) l
theorem litT_size : ∀ (l : List (Tmp × Value)) (T : Array Value), (litT T l).size = T.size
  | [], _ => rfl
  | p :: l, T => by show (litT (T.setIfInBounds p.1 p.2) l).size = _; rw [litT_size l]; simp
theorem litT_other : ∀ (l : List (Tmp × Value)) (T : Array Value) (t : Tmp), (∀ p ∈ l, p.1 ≠ t) → (litT T l)[t]? = T[t]?
  | [], _, _, _ => rfl
  | p :: l, T, t, h => by
    show (litT (T.setIfInBounds p.1 p.2) l)[t]? = _
    rw [litT_other l _ t (fun q hq => h q (List.mem_cons_of_mem _ hq)), Array.getElem?_setIfInBounds_ne (h p (List.mem_cons_self ..))]
theorem litT_in (u : Tmp → Option Value) : ∀ (l : List (Tmp × Value)) (T : Array Value) (t : Tmp), (∀ p ∈ l, u p.1 = some p.2) → (∃ p ∈ l, p.1 = t) → t < T.size → (litT T l)[t]? = u t
  | [], _, _, _, ⟨p, hp, _⟩, _ => by cases hp
  | p :: l, T, t, h, hex, ht => by
    show (litT (T.setIfInBounds p.1 p.2) l)[t]? = _
    by_cases hl : ∃ q ∈ l, q.1 = t
    · exact litT_in u l _ t (fun q hq => h q (List.mem_cons_of_mem _ hq)) hl (by simpa using ht)
    · rw [litT_other l _ t (fun q hq e => hl ⟨q, hq, e⟩)]
      obtain ⟨q, hq, hqt⟩ := hex
      rcases List.mem_cons.1 hq with rfl | hq
      · subst hqt
        rw [Array.getElem?_setIfInBounds_self_of_lt ht, h q (List.mem_cons_self ..)]
      · exact absurd ⟨q, hq, hqt⟩ hl
def coverB (ops : Array Oper) (l : List (Tmp × Value)) : Bool := ops.all fun o => match o.dst with | none => true | some d => l.any fun p => p.1 == d
theorem Same.lit {ops : Array Oper} {a0 a : Act} (h : Same ops a0 a) (l : List (Tmp × Value)) (hc : coverB ops l = true) (hv : ∀ p ∈ l, a.tmps[p.1]? = some p.2) : a = ⟨litT a0.tmps l, a0.defers⟩ := by
  have ht : a.tmps = litT a0.tmps l := by
    apply Array.ext_getElem?
    intro t
    by_cases hex : ∃ p ∈ l, p.1 = t
    · rcases Nat.lt_or_ge t a0.tmps.size with hlt | hge
      · rw [litT_in (fun t => a.tmps[t]?) l _ t hv hex hlt]
      · rw [Array.getElem?_eq_none (by rw [h.2.1]; exact hge), Array.getElem?_eq_none (by rw [litT_size]; exact hge)]
    · rw [litT_other l _ t (fun p hp e => hex ⟨p, hp, e⟩)]
      refine h.2.2 t (fun i o ho e => hex ?_)
      have h1 := Array.all_eq_true_iff_forall_mem.1 hc o (Array.mem_of_getElem? ho)
      simp only [e, List.any_eq_true, beq_iff_eq] at h1
      exact h1
  cases a
  simp only at ht
  rw [ht]
  have := h.1
  simp only at this
  rw [this]
theorem lits_nil {a : Act} : ∀ p ∈ ([] : List (Tmp × Value)), a.tmps[p.1]? = some p.2 := fun p hp => by cases hp
theorem lits_cons {a : Act} {d : Tmp} {v : Value} {l : List (Tmp × Value)} (h : a.tmps[d]? = some v) (h' : ∀ p ∈ l, a.tmps[p.1]? = some p.2) : ∀ p ∈ (d, v) :: l, a.tmps[p.1]? = some p.2 := fun p hp => by
  rcases List.mem_cons.1 hp with rfl | hp
  · exact h
  · exact h' p hp
/-! ### a store into a box that the region made -/
def BoxRel (B : Nat) (T : TypeId) (w w' : World) : Prop := Below B w w' ∧ (∀ b t cs, t ≠ T → Blk w b t cs → Blk w' b t cs) ∧ ∀ b cs, Blk w b T cs → ∃ cs', cs'.size = cs.size ∧ Blk w' b T cs'
theorem BoxRel.refl (B : Nat) (T : TypeId) (w : World) : BoxRel B T w w := ⟨Below.refl _ _, fun _ _ _ _ h => h, fun _ cs h => ⟨cs, rfl, h⟩⟩
theorem BoxRel.set_ {B : Nat} {T : TypeId} {w w' : World} (h : BoxRel B T w w') {b : Nat} {cs : Array Value} (hb : Blk w' b T cs) (hB : B ≤ b) (i : Nat) (v : Value) : BoxRel B T w (w'.setCell ⟨b, i, none⟩ v) := by
  refine ⟨h.1.setCell hB v, fun g t cs' ht hg => ?_, fun g cs' hg => ?_⟩
  · have h1 := h.2.1 g t cs' ht hg
    have hne : g ≠ b := by
      rintro rfl
      unfold Blk at h1 hb
      rw [h1] at hb
      cases hb
      exact ht rfl
    exact h1.far (p := ⟨b, i, none⟩) hne v
  · obtain ⟨c2, hs, h1⟩ := h.2.2 g cs' hg
    rcases Nat.decEq g b with hne | hne
    · exact ⟨c2, hs, h1.far (p := ⟨b, i, none⟩) hne v⟩
    · subst hne
      exact ⟨_, by rw [Array.size_setIfInBounds]; exact hs, h1.set_ i v⟩
theorem size2 {cs : Array Value} (h : cs.size = 2) : ∃ x y, cs = #[x, y] := by
  rcases cs with ⟨l⟩
  match l, h with
  | [x, y], _ => exact ⟨x, y, rfl⟩
/-- a box of two cells, what it holds unknown -/
def Box2 (B : Nat) (T : TypeId) (s : Tmp) (a : Act) (w : World) : Prop := ∃ b x y, a.tmps[s]? = some (.pointer (some ⟨b, 0, none⟩)) ∧ B ≤ b ∧ Blk w b T #[x, y]
/-- .. known -/
def BoxIs (B : Nat) (T : TypeId) (s : Tmp) (cs : Array Value) (a : Act) (w : World) : Prop := ∃ b, a.tmps[s]? = some (.pointer (some ⟨b, 0, none⟩)) ∧ B ≤ b ∧ Blk w b T cs
theorem Box2.keep {B : Nat} {T : TypeId} {s : Tmp} {a a' : Act} {w w' : World} (h : Box2 B T s a w) (hs : a'.tmps[s]? = a.tmps[s]?) (hr : BoxRel B T w w' ∨ Below w.heap.size w w') : Box2 B T s a' w' := by
  obtain ⟨b, x, y, h1, h2, h3⟩ := h
  rcases hr with hr | hr
  · obtain ⟨cs', hsz, h4⟩ := hr.2.2 _ _ h3
    obtain ⟨x', y', rfl⟩ := size2 (cs := cs') (by rw [hsz]; rfl)
    exact ⟨b, x', y', hs.trans h1, h2, h4⟩
  · exact ⟨b, x, y, hs.trans h1, h2, h3.to hr⟩
theorem BoxIs.keep {B : Nat} {T : TypeId} {s : Tmp} {cs : Array Value} {a a' : Act} {w w' : World} (h : BoxIs B T s cs a w) (hs : a'.tmps[s]? = a.tmps[s]?) (hr : Below w.heap.size w w') : BoxIs B T s cs a' w' := by
  obtain ⟨b, h1, h2, h3⟩ := h
  exact ⟨b, hs.trans h1, h2, h3.to hr⟩
/-- a slice that the region made -/
def RowIs (t : TypeId) (s : Tmp) (n : Nat) (cs : Array Value) (a : Act) (w : World) : Prop := ∃ b, a.tmps[s]? = some (.slice (some ⟨b, 0, none⟩) n n) ∧ Blk w b t cs
theorem RowIs.keep {t : TypeId} {s : Tmp} {n : Nat} {cs : Array Value} {a a' : Act} {w w' : World} (h : RowIs t s n cs a w) (hs : a'.tmps[s]? = a.tmps[s]?) (hr : (∃ B T, t ≠ T ∧ BoxRel B T w w') ∨ Below w.heap.size w w') : RowIs t s n cs a' w' := by
  obtain ⟨b, h1, h3⟩ := h
  rcases hr with ⟨B, T, ht, hr⟩ | hr
  · exact ⟨b, hs.trans h1, hr.2.1 _ _ _ ht h3⟩
  · exact ⟨b, hs.trans h1, h3.to hr⟩
theorem Same.put_at {ops : Array Oper} {a0 a : Act} (h : Same ops a0 a) {s : Tmp} (hs : (decide (s < a0.tmps.size)) = true) (v : Value) : (a.put (some s) v).tmps[s]? = some v := by
  show (a.tmps.setIfInBounds s v)[s]? = _
  rw [Array.getElem?_setIfInBounds_self_of_lt (by rw [h.2.1]; exact of_decide_eq_true hs)]
/-! ### the same in a class of worlds that one letter names -/
section
variable {P : Program} {ops : Array Oper} {Q : Exit → Act → World → Prop} {a0 : Act} {U : Type} {g : U → World}
def OwesG (P : Program) (ops : Array Oper) (Q : Exit → Act → World → Prop) (g : U → World) (a0 : Act) (V : List (Option Value)) (Fs : List (Nat × (Act → World → Prop))) (Rel : Nat → World → World → Prop) (i : Nat) (o : Oper) : Prop :=
  ∀ (a : Act) (u : U) (K : Act → World → Prop), Same ops a0 a → (∀ e ∈ o.after, Region.binds .any e = true → Kn ops V Fs e.on a (g u)) →
    (∀ v w', Rel i (g u) w' → (∀ v0, V[i]? = some (some v0) → v = v0) → (∀ p ∈ Fs, p.1 = i → p.2 (a.put o.dst v) w') → K (a.put o.dst v) w') →
    if Region.wanted o (yielded ops a.tmps) then o.wp P a (g u) K Q else K (a.put o.dst undef) (g u)
def AllOweG (P : Program) (ops : Array Oper) (Q : Exit → Act → World → Prop) (g : U → World) (a0 : Act) (V : List (Option Value)) (Fs : List (Nat × (Act → World → Prop))) (Rel : Nat → World → World → Prop) : List Oper → Nat → Prop
  | [], _ => True
  | o :: l, k => OwesG P ops Q g a0 V Fs Rel k o ∧ AllOweG P ops Q g a0 V Fs Rel l (k + 1)
theorem AllOweG.all {V : List (Option Value)} {Fs : List (Nat × (Act → World → Prop))} {Rel : Nat → World → World → Prop} : ∀ (l : List Oper) (k : Nat), AllOweG P ops Q g a0 V Fs Rel l k → AllOwe P ops Q (fun w' => ∃ u, w' = g u) a0 V Fs Rel l k
  | [], _, _ => trivial
  | o :: l, k, h => ⟨fun a w K hw hs hd hK => by
      obtain ⟨u, rfl⟩ := hw
      exact h.1 a u K hs hd hK, AllOweG.all l (k + 1) h.2⟩
end
/-! ### stores into an old block f, whose contents go through the stages cs 0 .. cs m -/
structure OldI (f : Nat) (T : TypeId) (cs : Nat → Array Value) (m : Nat) (w1 w : World) : Prop where
  below : Below f w1 w
  st : ∃ s, s ≤ m ∧ Blk w f T (cs s)
/-- at stage k or later -/
def StF (f : Nat) (T : TypeId) (cs : Nat → Array Value) (m k : Nat) (_ : Act) (w : World) : Prop := ∃ s, k ≤ s ∧ s ≤ m ∧ Blk w f T (cs s)
def RelS (f : Nat) (T : TypeId) (cs : Nat → Array Value) (m k : Nat) (w w' : World) : Prop := Below f w w' ∧ (∀ g t c, g ≠ f → Blk w g t c → Blk w' g t c) ∧ ∃ s, k ≤ s ∧ s ≤ m ∧ Blk w' f T (cs s)
section
variable {f m k : Nat} {T : TypeId} {cs : Nat → Array Value} {w1 w w' : World}
theorem OldI.step (h : OldI f T cs m w1 w) (hb : Below w.heap.size w w') : OldI f T cs m w1 w' := by
  obtain ⟨s, hs, hB⟩ := h.st
  exact ⟨h.below.trans (hb.mono (Nat.le_of_lt hB.lt)), s, hs, hB.to hb⟩
theorem OldI.store (h : OldI f T cs m w1 w) (hr : RelS f T cs m k w w') : OldI f T cs m w1 w' := by
  obtain ⟨s, _, hs, hB⟩ := hr.2.2
  exact ⟨h.below.trans hr.1, s, hs, hB⟩
theorem StF.step {a a' : Act} (h : StF f T cs m k a w) (hb : Below w.heap.size w w') : StF f T cs m k a' w' := by
  obtain ⟨s, h1, h2, hB⟩ := h
  exact ⟨s, h1, h2, hB.to hb⟩
theorem StF.later {a' : Act} {j : Nat} (hr : RelS f T cs m j w w') (hj : k ≤ j) : StF f T cs m k a' w' := by
  obtain ⟨s, h1, h2, hB⟩ := hr.2.2
  exact ⟨s, by omega, h2, hB⟩
/-- a slice that the region made, not the old block -/
def RowOf (f : Nat) (t : TypeId) (s : Tmp) (n : Nat) (c : Array Value) (a : Act) (w : World) : Prop := ∃ b, a.tmps[s]? = some (.slice (some ⟨b, 0, none⟩) n n) ∧ b ≠ f ∧ Blk w b t c
theorem RowOf.keep {t : TypeId} {s : Tmp} {n : Nat} {c : Array Value} {a a' : Act} (h : RowOf f t s n c a w) (hs : a'.tmps[s]? = a.tmps[s]?) (hr : (∃ j, RelS f T cs m j w w') ∨ Below w.heap.size w w') : RowOf f t s n c a' w' := by
  obtain ⟨b, h1, h2, h3⟩ := h
  rcases hr with ⟨j, hr⟩ | hr
  · exact ⟨b, hs.trans h1, h2, hr.2.1 _ _ _ h2 h3⟩
  · exact ⟨b, hs.trans h1, h2, h3.to hr⟩
end
theorem size1 {cs : Array Value} (h : cs.size = 1) : ∃ x0, cs = #[x0] := by
  rcases cs with ⟨l⟩
  match l, h with
  | [x0], _ => exact ⟨x0, rfl⟩
def Box1 (B : Nat) (T : TypeId) (s : Tmp) (a : Act) (w : World) : Prop := ∃ b x0, a.tmps[s]? = some (.pointer (some ⟨b, 0, none⟩)) ∧ B ≤ b ∧ Blk w b T #[x0]
theorem Box1.keep {B : Nat} {T : TypeId} {s : Tmp} {a a' : Act} {w w' : World} (h : Box1 B T s a w) (hs : a'.tmps[s]? = a.tmps[s]?) (hr : BoxRel B T w w' ∨ Below w.heap.size w w') : Box1 B T s a' w' := by
  obtain ⟨b, x0, h1, h2, h3⟩ := h
  rcases hr with hr | hr
  · obtain ⟨cs', hsz, h4⟩ := hr.2.2 _ _ h3
    obtain ⟨y0, rfl⟩ := size1 (cs := cs') (by rw [hsz]; rfl)
    exact ⟨b, y0, hs.trans h1, h2, h4⟩
  · exact ⟨b, x0, hs.trans h1, h2, h3.to hr⟩
theorem size3 {cs : Array Value} (h : cs.size = 3) : ∃ x0 x1 x2, cs = #[x0, x1, x2] := by
  rcases cs with ⟨l⟩
  match l, h with
  | [x0, x1, x2], _ => exact ⟨x0, x1, x2, rfl⟩
def Box3 (B : Nat) (T : TypeId) (s : Tmp) (a : Act) (w : World) : Prop := ∃ b x0 x1 x2, a.tmps[s]? = some (.pointer (some ⟨b, 0, none⟩)) ∧ B ≤ b ∧ Blk w b T #[x0, x1, x2]
theorem Box3.keep {B : Nat} {T : TypeId} {s : Tmp} {a a' : Act} {w w' : World} (h : Box3 B T s a w) (hs : a'.tmps[s]? = a.tmps[s]?) (hr : BoxRel B T w w' ∨ Below w.heap.size w w') : Box3 B T s a' w' := by
  obtain ⟨b, x0, x1, x2, h1, h2, h3⟩ := h
  rcases hr with hr | hr
  · obtain ⟨cs', hsz, h4⟩ := hr.2.2 _ _ h3
    obtain ⟨y0, y1, y2, rfl⟩ := size3 (cs := cs') (by rw [hsz]; rfl)
    exact ⟨b, y0, y1, y2, hs.trans h1, h2, h4⟩
  · exact ⟨b, x0, x1, x2, hs.trans h1, h2, h3.to hr⟩
theorem size4 {cs : Array Value} (h : cs.size = 4) : ∃ x0 x1 x2 x3, cs = #[x0, x1, x2, x3] := by
  rcases cs with ⟨l⟩
  match l, h with
  | [x0, x1, x2, x3], _ => exact ⟨x0, x1, x2, x3, rfl⟩
def Box4 (B : Nat) (T : TypeId) (s : Tmp) (a : Act) (w : World) : Prop := ∃ b x0 x1 x2 x3, a.tmps[s]? = some (.pointer (some ⟨b, 0, none⟩)) ∧ B ≤ b ∧ Blk w b T #[x0, x1, x2, x3]
theorem Box4.keep {B : Nat} {T : TypeId} {s : Tmp} {a a' : Act} {w w' : World} (h : Box4 B T s a w) (hs : a'.tmps[s]? = a.tmps[s]?) (hr : BoxRel B T w w' ∨ Below w.heap.size w w') : Box4 B T s a' w' := by
  obtain ⟨b, x0, x1, x2, x3, h1, h2, h3⟩ := h
  rcases hr with hr | hr
  · obtain ⟨cs', hsz, h4⟩ := hr.2.2 _ _ h3
    obtain ⟨y0, y1, y2, y3, rfl⟩ := size4 (cs := cs') (by rw [hsz]; rfl)
    exact ⟨b, y0, y1, y2, y3, hs.trans h1, h2, h4⟩
  · exact ⟨b, x0, x1, x2, x3, hs.trans h1, h2, h3.to hr⟩
theorem size5 {cs : Array Value} (h : cs.size = 5) : ∃ x0 x1 x2 x3 x4, cs = #[x0, x1, x2, x3, x4] := by
  rcases cs with ⟨l⟩
  match l, h with
  | [x0, x1, x2, x3, x4], _ => exact ⟨x0, x1, x2, x3, x4, rfl⟩
def Box5 (B : Nat) (T : TypeId) (s : Tmp) (a : Act) (w : World) : Prop := ∃ b x0 x1 x2 x3 x4, a.tmps[s]? = some (.pointer (some ⟨b, 0, none⟩)) ∧ B ≤ b ∧ Blk w b T #[x0, x1, x2, x3, x4]
theorem Box5.keep {B : Nat} {T : TypeId} {s : Tmp} {a a' : Act} {w w' : World} (h : Box5 B T s a w) (hs : a'.tmps[s]? = a.tmps[s]?) (hr : BoxRel B T w w' ∨ Below w.heap.size w w') : Box5 B T s a' w' := by
  obtain ⟨b, x0, x1, x2, x3, x4, h1, h2, h3⟩ := h
  rcases hr with hr | hr
  · obtain ⟨cs', hsz, h4⟩ := hr.2.2 _ _ h3
    obtain ⟨y0, y1, y2, y3, y4, rfl⟩ := size5 (cs := cs') (by rw [hsz]; rfl)
    exact ⟨b, y0, y1, y2, y3, y4, hs.trans h1, h2, h4⟩
  · exact ⟨b, x0, x1, x2, x3, x4, hs.trans h1, h2, h3.to hr⟩
end Go.Proofs.Ytnpdhbagfkilkaa

/- A region that draws its order: .. and facts that hold until an operation is run. -/
set_option linter.unusedVariables false
set_option linter.unusedSimpArgs false
namespace Go.Proofs.Ytnpdhbagfkilkaa
open Go Go.RowKit

section
variable {P : Program} {ops : Array Oper} {Q : Exit → Act → World → Prop} {md : Region.Mode} {C : World → Prop} {a0 : Act}
/-- operation k waits for i, by however many steps -/
def waitsT (md : Region.Mode) (ops : Array Oper) : Nat → Nat → Nat → Bool
  | 0, _, _ => false
  | f + 1, k, i => match ops[k]? with
    | none => false
    | some o => o.after.any fun e => Region.binds md e && (e.on == i || waitsT md ops f e.on i)
theorem waitsT_listed {listed : Array Bool} (hcl : ∀ (j : Nat) (oj : Oper), ops[j]? = some oj → listed.getD j false = true → ∀ e ∈ oj.after, Region.binds md e = true → listed.getD e.on false = true) :
    ∀ (f k i : Nat), waitsT md ops f k i = true → ∀ o, ops[k]? = some o → (∀ e ∈ o.after, Region.binds md e = true → listed.getD e.on false = true) → listed.getD i false = true
  | 0, _, _, h, _, _, _ => by cases h
  | f + 1, k, i, h, o, ho, hall => by
    unfold waitsT at h
    simp only [ho] at h
    obtain ⟨e, he, hb⟩ := Array.any_eq_true'.1 h
    simp only [Bool.and_eq_true, Bool.or_eq_true, beq_iff_eq] at hb
    have hl := hall e he hb.1
    rcases hb.2 with h1 | h1
    · rw [← h1]; exact hl
    · cases hoe : ops[e.on]? with
      | none =>
        cases f with
        | zero => cases h1
        | succ f => unfold waitsT at h1; simp only [hoe] at h1; cases h1
      | some oe => exact waitsT_listed hcl f e.on i h1 oe hoe (hcl e.on oe hoe hl)

/-- what operation i owes -/
def Owes2 (P : Program) (ops : Array Oper) (Q : Exit → Act → World → Prop) (C : World → Prop) (a0 : Act) (V : List (Option Value)) (Fs Ns : List (Nat × (Act → World → Prop))) (Rel : Nat → World → World → Prop) (i : Nat) (o : Oper) : Prop :=
  ∀ (a : Act) (w : World) (K : Act → World → Prop), C w → Same ops a0 a → (∀ e ∈ o.after, Region.binds .any e = true → Kn ops V Fs e.on a w) → (∀ p ∈ Ns, p.1 = i → p.2 a w) →
    (∀ v w', Rel i w w' → (∀ v0, V[i]? = some (some v0) → v = v0) → (∀ p ∈ Fs, p.1 = i → p.2 (a.put o.dst v) w') → K (a.put o.dst v) w') →
    if Region.wanted o (yielded ops a.tmps) then o.wp P a w K Q else K (a.put o.dst undef) w
def AllOwe2 (P : Program) (ops : Array Oper) (Q : Exit → Act → World → Prop) (C : World → Prop) (a0 : Act) (V : List (Option Value)) (Fs Ns : List (Nat × (Act → World → Prop))) (Rel : Nat → World → World → Prop) : List Oper → Nat → Prop
  | [], _ => True
  | o :: l, k => Owes2 P ops Q C a0 V Fs Ns Rel k o ∧ AllOwe2 P ops Q C a0 V Fs Ns Rel l (k + 1)
theorem AllOwe2.at {V : List (Option Value)} {Fs Ns : List (Nat × (Act → World → Prop))} {Rel : Nat → World → World → Prop} : ∀ (l : List Oper) (k : Nat), AllOwe2 P ops Q C a0 V Fs Ns Rel l k → ∀ (j : Nat) (o : Oper), l[j]? = some o → Owes2 P ops Q C a0 V Fs Ns Rel (k + j) o
  | [], _, _, j, o, ho => by simp at ho
  | x :: l, k, h, 0, o, ho => by
    simp only [List.getElem?_cons_zero, Option.some.injEq] at ho
    subst ho
    exact h.1
  | x :: l, k, h, j + 1, o, ho => by
    simp only [List.getElem?_cons_succ] at ho
    have := AllOwe2.at l (k + 1) h.2 j o ho
    rwa [show k + 1 + j = k + (j + 1) by omega] at this
end
theorem pre0_nil {a : Act} {w : World} : ∀ p ∈ ([] : List (Nat × (Act → World → Prop))), p.2 a w := fun p hp => by cases hp
theorem pre0_cons {j : Nat} {F : Act → World → Prop} {Ns : List (Nat × (Act → World → Prop))} {a : Act} {w : World} (h1 : F a w) (h2 : ∀ p ∈ Ns, p.2 a w) : ∀ p ∈ (j, F) :: Ns, p.2 a w := fun p hp => by
  rcases List.mem_cons.1 hp with rfl | hp
  · exact h1
  · exact h2 p hp
section
variable {ops : Array Oper} {n : Nat} {Rel : Nat → World → World → Prop}
end
end Go.Proofs.Ytnpdhbagfkilkaa

/- A drawn region whose relations know the frame ahead of and behind an operation. -/
set_option linter.unusedVariables false
set_option linter.unusedSimpArgs false
namespace Go.Proofs.Ytnpdhbagfkilkaa
open Go Go.RowKit

/-- the region is fit for it -/
def looseB3 (ops : Array Oper) (n : Nat) (js : List Nat) : Bool :=
  (List.range ops.size).all fun i => match ops[i]? with
    | none => true
    | some o => (o.after.all fun e => !Region.binds .any e || decide (e.on < i)) &&
      (match o.dst with
       | none => true
       | some d => decide (d < n) && (List.range ops.size).all fun j => (i == j) || (match ops[j]? with
          | none => true
          | some oj => (oj.dst != some d) && (!js.contains j || !(oj.looksAt ops).contains d || Region.waitsFor .any ops j i)))
theorem looseB3_spec {ops : Array Oper} {n : Nat} {js : List Nat} (h : looseB3 ops n js = true) : ∀ (i : Nat) (o : Oper), ops[i]? = some o → (∀ e ∈ o.after, Region.binds .any e = true → e.on < i) ∧
    ∀ d, o.dst = some d → d < n ∧ ∀ (j : Nat) (oj : Oper), i ≠ j → ops[j]? = some oj → oj.dst ≠ some d ∧ (j ∈ js → d ∈ oj.looksAt ops → Region.waitsFor .any ops j i = true) := by
  intro i o ho
  have hlt : i < ops.size := (Array.getElem?_eq_some_iff.1 ho).1
  have h1 := List.all_eq_true.1 h i (List.mem_range.2 hlt)
  simp only [ho, Bool.and_eq_true] at h1
  refine ⟨fun e he hb => ?_, fun d hd => ?_⟩
  · have := Array.all_eq_true_iff_forall_mem.1 h1.1 e he
    simpa [hb] using this
  · have h2 := h1.2
    simp only [hd, Bool.and_eq_true, decide_eq_true_eq] at h2
    refine ⟨h2.1, fun j oj hij hoj => ?_⟩
    have hjlt : j < ops.size := (Array.getElem?_eq_some_iff.1 hoj).1
    have h3 := List.all_eq_true.1 h2.2 j (List.mem_range.2 hjlt)
    simp only [hoj, Bool.or_eq_true, Bool.and_eq_true, bne_iff_ne, beq_iff_eq] at h3
    rcases h3 with h3 | h3
    · exact absurd h3 hij
    · refine ⟨h3.1, fun hjm hm => ?_⟩
      rcases h3.2 with (h4 | h4) | h4
      · simp only [Bool.not_eq_true', List.contains_eq_mem, decide_eq_false_iff_not] at h4
        exact absurd hjm h4
      · simp only [Bool.not_eq_true', List.contains_eq_mem, decide_eq_false_iff_not] at h4
        exact absurd hm h4
      · exact h4

section
variable {P : Program} {ops : Array Oper} {Q : Exit → Act → World → Prop} {md : Region.Mode} {C : World → Prop} {a0 : Act}
/-- what operation i owes -/
def Owes3 (P : Program) (ops : Array Oper) (Q : Exit → Act → World → Prop) (C : World → Prop) (a0 : Act) (V : List (Option Value)) (Fs Ns : List (Nat × (Act → World → Prop))) (Rel : Nat → Act → Act → World → World → Prop) (i : Nat) (o : Oper) : Prop :=
  ∀ (a : Act) (w : World) (K : Act → World → Prop), C w → Same ops a0 a → (∀ e ∈ o.after, Region.binds .any e = true → Kn ops V Fs e.on a w) → (∀ p ∈ Ns, p.1 = i → p.2 a w) →
    (∀ v w', Rel i a (a.put o.dst v) w w' → (∀ v0, V[i]? = some (some v0) → v = v0) → (∀ p ∈ Fs, p.1 = i → p.2 (a.put o.dst v) w') → K (a.put o.dst v) w') →
    if Region.wanted o (yielded ops a.tmps) then o.wp P a w K Q else K (a.put o.dst undef) w
def AllOwe3 (P : Program) (ops : Array Oper) (Q : Exit → Act → World → Prop) (C : World → Prop) (a0 : Act) (V : List (Option Value)) (Fs Ns : List (Nat × (Act → World → Prop))) (Rel : Nat → Act → Act → World → World → Prop) : List Oper → Nat → Prop
  | [], _ => True
  | o :: l, k => Owes3 P ops Q C a0 V Fs Ns Rel k o ∧ AllOwe3 P ops Q C a0 V Fs Ns Rel l (k + 1)
theorem AllOwe3.at {V : List (Option Value)} {Fs Ns : List (Nat × (Act → World → Prop))} {Rel : Nat → Act → Act → World → World → Prop} : ∀ (l : List Oper) (k : Nat), AllOwe3 P ops Q C a0 V Fs Ns Rel l k → ∀ (j : Nat) (o : Oper), l[j]? = some o → Owes3 P ops Q C a0 V Fs Ns Rel (k + j) o
  | [], _, _, j, o, ho => by simp at ho
  | x :: l, k, h, 0, o, ho => by
    simp only [List.getElem?_cons_zero, Option.some.injEq] at ho
    subst ho
    exact h.1
  | x :: l, k, h, j + 1, o, ho => by
    simp only [List.getElem?_cons_succ] at ho
    have := AllOwe3.at l (k + 1) h.2 j o ho
    rwa [show k + 1 + j = k + (j + 1) by omega] at this
end
section
variable {ops : Array Oper} {n : Nat} {Rel : Nat → Act → Act → World → World → Prop}
theorem prek_nil3 : ∀ p ∈ ([] : List (Nat × (Act → World → Prop))), ∀ (i : Nat) (a a' : Act) (w w' : World), i ≠ p.1 → waitsT .any ops n i p.1 = false → Rel i a a' w w' → p.2 a w → (∃ o v, ops[i]? = some o ∧ a' = a.put o.dst v) → p.2 a' w' := fun p hp => by cases hp
theorem prek_cons3 {j : Nat} {F : Act → World → Prop} {Ns : List (Nat × (Act → World → Prop))} (h1 : ∀ (i : Nat) (a a' : Act) (w w' : World), i ≠ j → waitsT .any ops n i j = false → Rel i a a' w w' → F a w → (∃ o v, ops[i]? = some o ∧ a' = a.put o.dst v) → F a' w')
    (h2 : ∀ p ∈ Ns, ∀ (i : Nat) (a a' : Act) (w w' : World), i ≠ p.1 → waitsT .any ops n i p.1 = false → Rel i a a' w w' → p.2 a w → (∃ o v, ops[i]? = some o ∧ a' = a.put o.dst v) → p.2 a' w') :
    ∀ p ∈ (j, F) :: Ns, ∀ (i : Nat) (a a' : Act) (w w' : World), i ≠ p.1 → waitsT .any ops n i p.1 = false → Rel i a a' w w' → p.2 a w → (∃ o v, ops[i]? = some o ∧ a' = a.put o.dst v) → p.2 a' w' := fun p hp => by
  rcases List.mem_cons.1 hp with rfl | hp
  · exact h1
  · exact h2 p hp
end
section
variable {ops : Array Oper} {Rel : Nat → Act → Act → World → World → Prop}
/-- a slot that only operation k writes -/
theorem other_slot {d k i : Nat} (hd : ((List.range ops.size).all fun j => j == k || decide ((ops[j]?.bind (·.dst)) ≠ some d)) = true) {a a' : Act} (h : ∃ o v, ops[i]? = some o ∧ a' = a.put o.dst v) (hi : i ≠ k) : a'.tmps[d]? = a.tmps[d]? := by
  obtain ⟨o, v, ho, rfl⟩ := h
  have hlt : i < ops.size := (Array.getElem?_eq_some_iff.1 ho).1
  have h1 := List.all_eq_true.1 hd i (by simpa using hlt)
  simp only [Bool.or_eq_true, beq_iff_eq, decide_eq_true_eq, ho, Option.bind_some] at h1
  have h2 : o.dst ≠ some d := h1.resolve_left hi
  unfold Act.put
  split
  · rename_i di hdi
    have hne : di ≠ d := fun e => h2 (by rw [hdi, e])
    show (a.tmps.setIfInBounds di v)[d]? = _
    rw [Array.getElem?_setIfInBounds_ne hne]
  · rfl
end
end Go.Proofs.Ytnpdhbagfkilkaa

/- As XLo3, but an operation owes its fact out of the facts of all that it waits for, by however many steps; a fact need not be kept by what it waits for so. -/
set_option linter.unusedVariables false
set_option linter.unusedSimpArgs false
namespace Go.Proofs.Ytnpdhbagfkilkaa
open Go Go.RowKit

theorem waitsT_of {md : Region.Mode} {ops : Array Oper} {j i : Nat} (h : Region.waitsFor md ops j i = true) (hs : 0 < ops.size) : waitsT md ops ops.size j i = true := by
  obtain ⟨n, hn⟩ : ∃ n, ops.size = n + 1 := ⟨ops.size - 1, by omega⟩
  rw [hn]
  obtain ⟨oj, hoj, e, he, hb, hon⟩ := Region.waitsFor_spec h
  unfold waitsT
  simp only [hoj]
  exact Array.any_eq_true'.2 ⟨e, he, by simp [hb, hon]⟩
section
variable {P : Program} {ops : Array Oper} {Q : Exit → Act → World → Prop} {md : Region.Mode} {C : World → Prop} {a0 : Act}
theorem wpAny_pre4 (Kn : Nat → Act → World → Prop) (N : Nat → Act → World → Prop) (Rel : Nat → Act → Act → World → World → Prop)
    (hacyc : ∀ (i : Nat) (o : Oper), ops[i]? = some o → ∀ e ∈ o.after, Region.binds md e = true → e.on < i)
    (hC : ∀ i a a' w w', C w → Rel i a a' w w' → C w')
    (hkeep : ∀ (i j : Nat) (o : Oper), i ≠ j → ops[i]? = some o → waitsT md ops ops.size j i = false → ∀ a v w w', Kn j a w → Rel i a (a.put o.dst v) w w' → Kn j (a.put o.dst v) w')
    (hNk : ∀ (i k : Nat) (o : Oper), i ≠ k → ops[k]? = some o → waitsT md ops ops.size k i = false → ∀ a v w w', N i a w → Rel k a (a.put o.dst v) w w' → N i (a.put o.dst v) w')
    (hop : ∀ (i : Nat) (o : Oper), ops[i]? = some o → ∀ a w, C w → Same ops a0 a → (∀ j, waitsT md ops ops.size i j = true → Kn j a w) → N i a w →
      wpOp P ops Q i (fun a' w' => ∃ v, a' = a.put o.dst v ∧ Rel i a (a.put o.dst v) w w' ∧ Kn i (a.put o.dst v) w') a w)
    (hfin : ∀ a w, C w → Same ops a0 a → (∀ i, i < ops.size → Kn i a w) → Q .normal a w) :
    ∀ (f : Nat) (L : List Nat) (listed : Array Bool) (a : Act) (w : World), L.length ≤ f → listed.size = ops.size → (∀ i, i < ops.size → listed.getD i true = false → i ∈ L) → C w → Same ops a0 a →
      (∀ (j : Nat) (oj : Oper), ops[j]? = some oj → listed.getD j false = true → ∀ e ∈ oj.after, Region.binds md e = true → listed.getD e.on false = true) →
      (∀ i, i < ops.size → listed.getD i false = true → Kn i a w) → (∀ i, i < ops.size → listed.getD i true = false → N i a w) → wpAny P md ops Q f listed a w := by
  have hfull : ∀ listed : Array Bool, listed.size = ops.size → Region.ready md ops listed = [] → ∀ (d i : Nat), i < d → i < ops.size → listed.getD i false = true := by
    intro listed hsz hr d
    induction d with
    | zero => intro i hi; omega
    | succ d ih =>
      intro i hi hin
      rcases Nat.lt_or_ge i d with h | h
      · exact ih i h hin
      · obtain rfl : i = d := by omega
        cases hl : listed.getD i false with
        | true => rfl
        | false =>
          have hmem : i ∈ Region.ready md ops listed := by
            rw [mem_ready]
            refine ⟨getD_in (by omega) hl, ops[i], Array.getElem?_eq_getElem hin, fun e he hb => ?_⟩
            have := hacyc i ops[i] (Array.getElem?_eq_getElem hin) e he hb
            exact ih e.on this (by omega)
          rw [hr] at hmem
          cases hmem
  intro f
  induction f with
  | zero =>
    intro L listed a w hL hsz hun hw hs hcl hk hN
    have hall : ∀ i, i < ops.size → listed.getD i false = true := by
      intro i hi
      cases hl : listed.getD i false with
      | true => rfl
      | false =>
        have := hun i hi (getD_in (by omega) hl)
        have hL0 : L = [] := List.length_eq_zero_iff.1 (by omega)
        rw [hL0] at this
        cases this
    have hr : Region.ready md ops listed = [] := by
      apply List.eq_nil_iff_forall_not_mem.2
      intro i hi
      obtain ⟨h1, o, ho, _⟩ := mem_ready.1 hi
      have hlt : i < ops.size := (Array.getElem?_eq_some_iff.1 ho).1
      have h2 := hall i hlt
      rw [getD_both h1] at h2
      cases h2
    exact ⟨hr, hfin a w hw hs (fun i hi => hk i hi (hall i hi))⟩
  | succ f ih =>
    intro L listed a w hL hsz hun hw hs hcl hk hN
    refine ⟨fun hr => hfin a w hw hs (fun i hi => hk i hi (hfull listed hsz hr _ i hi hi)), fun i hi => ?_⟩
    obtain ⟨hiun, o, ho, hall⟩ := mem_ready.1 hi
    have hlt : i < ops.size := (Array.getElem?_eq_some_iff.1 ho).1
    refine wpOp_mono ?_ (hop i o ho a w hw hs (fun j hwj => by
      have h1 := waitsT_listed hcl _ _ _ hwj o ho hall
      have h2 : j < ops.size := by
        rcases Nat.lt_or_ge j ops.size with h | h
        · exact h
        · rw [Array.getD_eq_getD_getElem?, Array.getElem?_eq_none (by omega)] at h1; cases h1
      exact hk j h2 h1) (hN i hlt hiun))
    rintro a' w' ⟨v, rfl, hrel, hkn⟩
    have hiL := hun i hlt hiun
    refine ih (L.erase i) (listed.setIfInBounds i true) _ w' ?_ (by simpa using hsz) ?_ (hC i _ _ _ _ hw hrel) (hs.put ho v) ?_ ?_ ?_
    · rw [List.length_erase_of_mem hiL]; omega
    · intro j hj hjl
      rcases Nat.decEq j i with hji | hji
      · rw [getD_set_ne true (Ne.symm hji)] at hjl
        exact (List.mem_erase_of_ne hji).2 (hun j hj hjl)
      · subst hji
        rw [Array.getD_eq_getD_getElem?, Array.getElem?_setIfInBounds_self_of_lt (by omega)] at hjl
        cases hjl
    · intro j oj hoj hjl e he hb
      rcases Nat.decEq j i with hji | hji
      · rw [getD_set_ne false (Ne.symm hji)] at hjl
        exact getD_set_true (hcl j oj hoj hjl e he hb)
      · subst hji
        have : oj = o := Option.some.inj (hoj.symm.trans ho)
        subst this
        exact getD_set_true (hall e he hb)
    · intro j hj hjl
      rcases Nat.decEq j i with hji | hji
      · rw [getD_set_ne false (Ne.symm hji)] at hjl
        refine hkeep i j o (Ne.symm hji) ho ?_ a v w w' (hk j hj hjl) hrel
        cases hwf : waitsT md ops ops.size j i with
        | false => rfl
        | true =>
          have h1 := waitsT_listed hcl _ _ _ hwf ops[j] (Array.getElem?_eq_getElem hj) (hcl j _ (Array.getElem?_eq_getElem hj) hjl)
          rw [getD_both hiun] at h1
          cases h1
      · subst hji; exact hkn
    · intro j hj hjl
      rcases Nat.decEq j i with hji | hji
      · rw [getD_set_ne true (Ne.symm hji)] at hjl
        refine hNk j i o hji ho ?_ a v w w' (hN j hj hjl) hrel
        cases hwt : waitsT md ops ops.size i j with
        | false => rfl
        | true =>
          have := waitsT_listed hcl _ _ _ hwt o ho hall
          rw [getD_both hjl] at this
          cases this
      · subst hji
        rw [Array.getD_eq_getD_getElem?, Array.getElem?_setIfInBounds_self_of_lt (by omega)] at hjl
        cases hjl
/-- what operation i owes -/
def Owes4 (P : Program) (ops : Array Oper) (Q : Exit → Act → World → Prop) (C : World → Prop) (a0 : Act) (V : List (Option Value)) (Fs Ns : List (Nat × (Act → World → Prop))) (Rel : Nat → Act → Act → World → World → Prop) (i : Nat) (o : Oper) : Prop :=
  ∀ (a : Act) (w : World) (K : Act → World → Prop), C w → Same ops a0 a → (∀ j, waitsT .any ops ops.size i j = true → Kn ops V Fs j a w) → (∀ p ∈ Ns, p.1 = i → p.2 a w) →
    (∀ v w', Rel i a (a.put o.dst v) w w' → (∀ v0, V[i]? = some (some v0) → v = v0) → (∀ p ∈ Fs, p.1 = i → p.2 (a.put o.dst v) w') → K (a.put o.dst v) w') →
    if Region.wanted o (yielded ops a.tmps) then o.wp P a w K Q else K (a.put o.dst undef) w
def AllOwe4 (P : Program) (ops : Array Oper) (Q : Exit → Act → World → Prop) (C : World → Prop) (a0 : Act) (V : List (Option Value)) (Fs Ns : List (Nat × (Act → World → Prop))) (Rel : Nat → Act → Act → World → World → Prop) : List Oper → Nat → Prop
  | [], _ => True
  | o :: l, k => Owes4 P ops Q C a0 V Fs Ns Rel k o ∧ AllOwe4 P ops Q C a0 V Fs Ns Rel l (k + 1)
theorem AllOwe4.at {V : List (Option Value)} {Fs Ns : List (Nat × (Act → World → Prop))} {Rel : Nat → Act → Act → World → World → Prop} : ∀ (l : List Oper) (k : Nat), AllOwe4 P ops Q C a0 V Fs Ns Rel l k → ∀ (j : Nat) (o : Oper), l[j]? = some o → Owes4 P ops Q C a0 V Fs Ns Rel (k + j) o
  | [], _, _, j, o, ho => by simp at ho
  | x :: l, k, h, 0, o, ho => by
    simp only [List.getElem?_cons_zero, Option.some.injEq] at ho
    subst ho
    exact h.1
  | x :: l, k, h, j + 1, o, ho => by
    simp only [List.getElem?_cons_succ] at ho
    have := AllOwe4.at l (k + 1) h.2 j o ho
    rwa [show k + 1 + j = k + (j + 1) by omega] at this
theorem wpAny_lo4 {w : World} {l : List Oper} (V : List (Option Value)) (Fs : List (Nat × (Act → World → Prop))) (Ns : List (Nat × (Act → World → Prop))) (Rel : Nat → Act → Act → World → World → Prop)
    (hB : looseB3 l.toArray a0.tmps.size (Fs.map (·.1)) = true) (hCw : C w.drew) (hC : ∀ i a a' w w', C w → Rel i a a' w w' → C w')
    (hst : ∀ p ∈ Fs, ∀ (i : Nat) (a a' : Act) (w w' : World), i ≠ p.1 → waitsT .any l.toArray l.length p.1 i = false → (∀ t, (Oper.slots l.toArray p.1).contains t = true → a'.tmps[t]? = a.tmps[t]?) → (∃ o v, l.toArray[i]? = some o ∧ a' = a.put o.dst v) → Rel i a a' w w' → p.2 a w → p.2 a' w')
    (hN0 : ∀ p ∈ Ns, p.2 a0 w.drew)
    (hNst : ∀ p ∈ Ns, ∀ (i : Nat) (a a' : Act) (w w' : World), i ≠ p.1 → waitsT .any l.toArray l.length i p.1 = false → Rel i a a' w w' → p.2 a w → (∃ o v, l.toArray[i]? = some o ∧ a' = a.put o.dst v) → p.2 a' w')
    (hop : AllOwe4 P l.toArray Q C a0 V Fs Ns Rel l 0)
    (hfin : ∀ a w, C w → Same l.toArray a0 a → (∀ i, i < l.length → Kn l.toArray V Fs i a w) → Q .normal a w) : wpAny P .any l.toArray Q l.toArray.size (Array.replicate l.toArray.size false) a0 w.drew := by
  have hspec := looseB3_spec hB
  refine (wpAny_pre4 (C := C) (a0 := a0) (Kn l.toArray V Fs) (fun i a w => ∀ p ∈ Ns, p.1 = i → p.2 a w) Rel (fun i o ho => (hspec i o ho).1) hC ?_ ?_ ?_ ?_ _ (List.range l.toArray.size) _ _ _ (by simp) (by simp) ?_ hCw (Same.refl _ _) ?_ ?_ ?_)
  · intro i j o hij ho hwf a v w w' hk hrel
    refine ⟨fun oj u d hoj hu hd => ?_, fun p hp hpj => ?_⟩
    · have h1 := hk.1 oj u d hoj hu hd
      unfold Act.put
      split
      · rename_i di hdi
        have hne : di ≠ d := fun e => ((hspec i o ho).2 di hdi).2 j oj hij hoj |>.1 (by rw [hd, e])
        show (a.tmps.setIfInBounds di v)[d]? = _
        rw [Array.getElem?_setIfInBounds_ne hne]
        exact h1
      · exact h1
    · refine hst p hp i a _ w w' (by rw [hpj]; exact hij) (by rw [hpj]; simpa using hwf) (fun t ht => ?_) ⟨o, v, ho, rfl⟩ hrel (hk.2 p hp hpj)
      rw [hpj, List.contains_iff_mem] at ht
      unfold Act.put
      split
      · rename_i di hdi
        show (a.tmps.setIfInBounds di v)[t]? = _
        have hne : di ≠ t := by
          intro e
          subst e
          unfold Oper.slots at ht
          split at ht
          · cases ht
          · rename_i oj hoj
            have h2 := ((hspec i o ho).2 di hdi).2 j oj hij hoj
            rcases List.mem_append.1 ht with h3 | h3
            · rw [Option.mem_toList] at h3
              exact h2.1 h3
            · have h4 := waitsT_of (h2.2 (List.mem_map.2 ⟨p, hp, hpj⟩) h3) (by have := (Array.getElem?_eq_some_iff.1 ho).1; omega)
              rw [h4] at hwf
              cases hwf
        rw [Array.getElem?_setIfInBounds_ne hne]
      · rfl
  · intro i k o hik ho hwt a v w w' hN hrel p hp hpi
    refine hNst p hp k a _ w w' (by rw [hpi]; exact Ne.symm hik) (by rw [hpi]; simpa using hwt) hrel (hN p hp hpi) ⟨o, v, ho, rfl⟩
  · intro i o ho a w hw hs hk hN
    have h := AllOwe4.at l 0 hop i o (by simpa using ho)
    rw [Nat.zero_add] at h
    unfold wpOp
    simp only [ho]
    have hput : ∀ (v : Value) (w' : World), Rel i a (a.put o.dst v) w w' → (∀ v0, V[i]? = some (some v0) → v = v0) → (∀ p ∈ Fs, p.1 = i → p.2 (a.put o.dst v) w') → ∃ u, a.put o.dst v = a.put o.dst u ∧ Rel i a (a.put o.dst u) w w' ∧ Kn l.toArray V Fs i (a.put o.dst u) w' := by
      intro v w' hr hv hf
      refine ⟨v, rfl, hr, fun oj u d hoj hu hd => ?_, hf⟩
      have : oj = o := Option.some.inj (hoj.symm.trans ho)
      subst this
      have hvu := hv u hu
      subst hvu
      have hlt := ((hspec i oj ho).2 d hd).1
      unfold Act.put
      rw [hd]
      show (a.tmps.setIfInBounds d v)[d]? = _
      rw [Array.getElem?_setIfInBounds_self_of_lt (by rw [hs.2.1]; exact hlt)]
    have h' := h a w (fun a' w' => ∃ u, a' = a.put o.dst u ∧ Rel i a (a.put o.dst u) w w' ∧ Kn l.toArray V Fs i (a.put o.dst u) w') hw hs hk hN hput
    split
    · rename_i hwt
      rw [if_pos hwt] at h'
      exact .inl h'
    · rename_i hwt
      rw [if_neg hwt] at h'
      exact h'
  · intro a w hw hs hk
    exact hfin a w hw hs (fun i hi => hk i (by simpa using hi))
  · intro i hi _
    simpa using hi
  · intro j oj _ hl
    rw [getD_replicate_false] at hl
    cases hl
  · intro i _ hl
    rw [getD_replicate_false] at hl
    cases hl
  · intro i _ _ p hp _
    exact hN0 p hp
theorem wp_region_lo4 {id : Nat} {w : World} {l : List Oper} (V : List (Option Value)) (Fs : List (Nat × (Act → World → Prop))) (Ns : List (Nat × (Act → World → Prop))) (Rel : Nat → Act → Act → World → World → Prop)
    (hm : P.follows .mixedOrders = true) (hB : looseB3 l.toArray a0.tmps.size (Fs.map (·.1)) = true) (hCw : C w.drew) (hC : ∀ i a a' w w', C w → Rel i a a' w w' → C w')
    (hst : ∀ p ∈ Fs, ∀ (i : Nat) (a a' : Act) (w w' : World), i ≠ p.1 → waitsT .any l.toArray l.length p.1 i = false → (∀ t, (Oper.slots l.toArray p.1).contains t = true → a'.tmps[t]? = a.tmps[t]?) → (∃ o v, l.toArray[i]? = some o ∧ a' = a.put o.dst v) → Rel i a a' w w' → p.2 a w → p.2 a' w')
    (hN0 : ∀ p ∈ Ns, p.2 a0 w.drew)
    (hNst : ∀ p ∈ Ns, ∀ (i : Nat) (a a' : Act) (w w' : World), i ≠ p.1 → waitsT .any l.toArray l.length i p.1 = false → Rel i a a' w w' → p.2 a w → (∃ o v, l.toArray[i]? = some o ∧ a' = a.put o.dst v) → p.2 a' w')
    (hop : AllOwe4 P l.toArray Q C a0 V Fs Ns Rel l 0)
    (hfin : ∀ a w, C w → Same l.toArray a0 a → (∀ i, i < l.length → Kn l.toArray V Fs i a w) → Q .normal a w) : (Code.region id l.toArray true).wp P Q a0 w :=
  wp_region_any hm (wpAny_lo4 V Fs Ns Rel hB hCw hC hst hN0 hNst hop hfin)

end
section
variable {ops : Array Oper} {n : Nat} {Rel : Nat → Act → Act → World → World → Prop}
theorem keeps4_nil : ∀ p ∈ ([] : List (Nat × (Act → World → Prop))), ∀ (i : Nat) (a a' : Act) (w w' : World), i ≠ p.1 → waitsT .any ops n p.1 i = false → (∀ t, (Oper.slots ops p.1).contains t = true → a'.tmps[t]? = a.tmps[t]?) → (∃ o v, ops[i]? = some o ∧ a' = a.put o.dst v) → Rel i a a' w w' → p.2 a w → p.2 a' w' := fun p hp => by cases hp
theorem keeps4_cons {j : Nat} {F : Act → World → Prop} {Fs : List (Nat × (Act → World → Prop))} (h1 : ∀ (i : Nat) (a a' : Act) (w w' : World), i ≠ j → waitsT .any ops n j i = false → (∀ t, (Oper.slots ops j).contains t = true → a'.tmps[t]? = a.tmps[t]?) → (∃ o v, ops[i]? = some o ∧ a' = a.put o.dst v) → Rel i a a' w w' → F a w → F a' w')
    (h2 : ∀ p ∈ Fs, ∀ (i : Nat) (a a' : Act) (w w' : World), i ≠ p.1 → waitsT .any ops n p.1 i = false → (∀ t, (Oper.slots ops p.1).contains t = true → a'.tmps[t]? = a.tmps[t]?) → (∃ o v, ops[i]? = some o ∧ a' = a.put o.dst v) → Rel i a a' w w' → p.2 a w → p.2 a' w') : ∀ p ∈ (j, F) :: Fs, ∀ (i : Nat) (a a' : Act) (w w' : World), i ≠ p.1 → waitsT .any ops n p.1 i = false → (∀ t, (Oper.slots ops p.1).contains t = true → a'.tmps[t]? = a.tmps[t]?) → (∃ o v, ops[i]? = some o ∧ a' = a.put o.dst v) → Rel i a a' w w' → p.2 a w → p.2 a' w' := fun p hp => by
  rcases List.mem_cons.1 hp with rfl | hp
  · exact h1
  · exact h2 p hp
end
end Go.Proofs.Ytnpdhbagfkilkaa

/- The reference of layer 18: Row. -/
set_option linter.unusedVariables false
set_option linter.unusedSimpArgs false
namespace Go.Proofs.Ytnpdhbagfkilkaa
open Go.RowKit

/-- the distances of the beginnings of x, the first k -/
def rowL (W : Wt) (x y : List UInt8) (k : Nat) : List Int := (List.range k).map fun i => Wt.F W x y y.length i
theorem rowL_succ (W : Wt) (x y : List UInt8) (k : Nat) : rowL W x y (k + 1) = rowL W x y k ++ [Wt.F W x y y.length k] := by unfold rowL; rw [List.range_succ, List.map_append]; rfl
theorem rowL_len (W : Wt) (x y : List UInt8) (k : Nat) : (rowL W x y k).length = k := by simp [rowL]
theorem ext_list (x : ByteArray) (i : Nat) : (x.extract 0 i).data.toList = x.data.toList.take i := by
  have e : bs x.data.toList = x := by cases x; simp [bs]
  have h := bs_cut x.data.toList 0 i
  rw [e] at h
  rw [h]; simp [bs]
theorem F_row {W : Wt} {x y : List UInt8} {i : Nat} : Wt.F W x y y.length i = W.D (x.take i) y 0 0 := by unfold Wt.F Wt.dl; rw [List.take_length]
theorem eval_at8 {a : Act} {s : Tmp} {v : Value} (h : a.tmps[s]? = some v) : a.eval (.tmp s) = v := by simp [Act.eval, h]
theorem FT.cells8 {wr w : World} {W : Wt} {A : Option Addr} {n c lo q p : Nat} {x y : ByteArray} {D : Nat → Nat → Int} (h : FT wr w W A n c x y D lo q p) {i j : Nat} (hl : lo ≤ i) (hi : i ≤ x.size) (hj : j ≤ y.size) (hq : q ≤ i ∨ (i + 1 = q ∧ p ≤ j)) :
    ∃ b, wr.cell? ⟨w.heap.size + 1, i, none⟩ = some (.slice (some ⟨b, 0, none⟩) (y.size + 1) (y.size + 1)) ∧ wr.cell? ⟨b, j, none⟩ = some (.int .i64 (D i j)) ∧ w.heap.size + 1 < wr.heap.size ∧ b < wr.heap.size ∧ w.heap.size + 1 < b := by
  obtain ⟨R, f, h1, h2⟩ := h
  exact ⟨R i, h1.slot hl hi, by rw [h1.cell hl hi hj, h2 i j hi hj hl hq], h1.top.lt, (h1.row i hl hi).lt, h1.hT i hl hi⟩
theorem wp_append8 {P : Program} {w : World} {o : Oper} {a : Act} {K : Act → World → Prop} {Q : Exit → Act → World → Prop} (s x : Operand) (t : TypeId)
    (ho : o.op = .call { callee := .builtin .append, args := #[s, x], argTypes := #[t, t] })
    (base : Nat) (e : TypeId) (i : TypeInfo) (z : Value) (size bytes : Nat) (ht : P.underlying t = some (.slice e)) (hi : P.info? e = some i) (hz : i.zero = some z)
    (hsize : i.size = size) (hby : i.bytes = bytes) (hzs : z.cells.size = size) (hsz : 0 < size)
    (v : Value) (n : Nat) (xs : List Value) (hs : a.eval s = v) (hown : w.ownsRow base e size v n xs)
    (ad : Addr) (m c : Nat) (news : List Value) (hx : a.eval x = .slice (some ad) m c) (hl : news.length = m * size) (hnews : ∀ j u, news[j]? = some u → w.cell? (ad.add j) = some u) (h1 : ∀ u ∈ news, u.oneCell' = true)
    (h63 : n + m ≤ maxLen) (hbytes : (n + m) * bytes ≤ 140737488355328) (hbase : base ≤ w.heap.size)
    (h : ∀ v' w', w'.ownsRow base e size v' (n + m) (xs ++ news) → w.grownBy w' v.ownBlock → K (a.put o.dst v') w') : Oper.wp P o a w K Q := by
  obtain ⟨v', w', hr, h2, h3, _, _⟩ := run_append_own_at (P := P) w base t o.type e i z size bytes ht hi hz hsize hby hzs hsz v n xs hown ad m c news hl hnews h1 h63 hbytes hbase
  unfold Oper.wp execOp
  simp only [ho, resolve, invoke, builtin, Sem.run_bind, Sem.run_pure, Result.andThen_ok, List.map_toArray, List.map_cons, List.map_nil, hs, hx, hr]
  exact h v' w' h2 h3
theorem own_to8 {w w' : World} {base : Nat} {e : TypeId} {size n : Nat} {v : Value} {xs : List Value} (h : w.ownsRow base e size v n xs) (hb : Below w.heap.size w w') : w'.ownsRow base e size v n xs :=
  h.kept (show w.grownBy w' none from ⟨hb.os, hb.tape, hb.output, hb.size, fun i hi _ => hb.block i hi⟩) (by cases v.ownBlock <;> simp)
set_option maxRecDepth 100000 in
set_option maxHeartbeats 8000000 in
theorem rrow_any (WW : Wt) (A : Option Addr) (n c X : Nat) (x y : ByteArray) (w : World) (hN : Near w X A n WW.near) (hX0 : X ≤ w.heap.size) (hn : n ≤ 140737488355328) (hv : WW.valid = true) (hxt : okText x.data.toList = true) (hyt : okText y.data.toList = true) :
    Calls Try.prog 35 #[wval WW A n c, .string x, .string y] w fun e w' => ∃ v, e = .returned v ∧ IntsV w' v (rowL WW x.data.toList y.data.toList (x.size + 1)) ∧ Below w.heap.size w w' := by
  have HN := hide hN
  have HV := hide hv
  have HB := hide (Box.start w WW A n c)
  have hx120 : x.size ≤ 120 := by simpa using okText_len hxt
  have hy120 : y.size ≤ 120 := by simpa using okText_len hyt
  have HD : Hid (∀ i, WW.IsDist (x.extract 0 i).data.toList y.data.toList (WW.D (x.extract 0 i).data.toList y.data.toList)) := fun i => Wt.isDist hv (by rw [ext_list]; have := okText_len hxt; rw [List.length_take]; omega) (okText_len hyt)
  obtain ⟨i0, hi0, hz0, hz1, hz2⟩ := info_parts info_int
  have wu : Try.prog.underlying 25 = some (.slice 3) := Try.underlying25
  clear hN hv hxt hyt
  go_enter Try.func35, Try.ntmps35
  unfold wval
  go_upto_region 1 with fail
  generalize w.alloc (.cells #[.int .i64 WW.ins, .int .i64 WW.del, .int .i64 WW.chg, .int .i64 WW.swp, .slice A n c] 24) = w1 at *
  go_wp2_with fail
  go_loopw [7, 8] (fun t7 t8 wr => ∃ k : Nat, t8 = .int .i64 (k : Int) ∧ k ≤ x.size + 1 ∧ wr.ownsRow w1.heap.size 3 1 t7 (rowL WW x.data.toList y.data.toList k).length ((rowL WW x.data.toList y.data.toList k).map (Value.int .i64)) ∧ Below w1.heap.size w1 wr) (fun _ t8 _ => x.size + 1 - (intOf t8).toNat)
  case atStart => exact ⟨0, rfl, Nat.zero_le _, ⟨by simp [rowL], .inl ⟨rfl, rfl⟩⟩, Below.refl _ _⟩
  case round =>
    obtain ⟨v, rfl⟩ : ∃ v : Value, v = u7 := ⟨_, rfl⟩
    obtain ⟨k, rfl, hk, hown, hB⟩ := hrel
    have HO := hide hown
    have HBk := hide hB
    clear hown hB
    by_cases hkx : k ≤ x.size
    · have e1 : decide ((k : Int) ≤ (x.size : Int)) = true := decide_eq_true (by omega)
      have e1' : decide (k ≤ x.size) = true := decide_eq_true hkx
      have HBx := hide (HB.out.next HBk.out)
      obtain ⟨d0, d1, d2, d3, d4⟩ := HBx.out.facts
      have k0 : (0 : Int) ≤ (k : Int) := by omega
      have k1 : (k : Int) ≤ (x.size : Int) := by omega
      have hes : (x.extract 0 k).size ≤ 120 := by have : (x.extract 0 k).data.toList.length ≤ 120 := by rw [ext_list, List.length_take]; simp; omega
                                                  simpa using this
      have HSZ : Hid (w1.heap.size ≤ wr.heap.size) := HBk.out.size
      have HLEN : Hid ((rowL WW x.data.toList y.data.toList k).length ≤ 1000) := by show _ ≤ _; rw [rowL_len]; omega
      have HFV : Hid (WW.D (x.extract 0 k).data.toList y.data.toList 0 0 = Wt.F WW x.data.toList y.data.toList y.data.toList.length k) := by show _ = _; rw [F_row, ext_list]
      have HRS := hide (rowL_succ WW x.data.toList y.data.toList k)
      go_upto_region 5 with fail
      have s1 : (0 : Int) < ((x.extract 0 k).size : Int) + 1 := by omega
      have s2 : (0 : Int) < (y.size : Int) + 1 := by omega
      generalize rowL WW x.data.toList y.data.toList k = L at *
      generalize Wt.F WW x.data.toList y.data.toList y.data.toList.length k = fv at *
      have CT : ∀ wv, Below wr.heap.size wr wv → Calls Try.prog 30 #[.agg #[.int .i64 WW.ins, .int .i64 WW.del, .int .i64 WW.chg, .int .i64 WW.swp, .slice A n c], .string (x.extract 0 k), .string y] wv fun e w' => e = .returned (.slice (some ⟨wv.heap.size + 1, 0, none⟩) ((x.extract 0 k).size + 1) ((x.extract 0 k).size + 1)) ∧ (∃ bR, w'.cell? ⟨wv.heap.size + 1, 0, none⟩ = some (.slice (some ⟨bR, 0, none⟩) (y.size + 1) (y.size + 1)) ∧ w'.cell? ⟨bR, 0, none⟩ = some (.int .i64 fv) ∧ wv.heap.size + 1 < w'.heap.size ∧ bR < w'.heap.size ∧ wr.heap.size ≤ wv.heap.size + 1 ∧ wr.heap.size ≤ bR) ∧ Below wv.heap.size wv w' := fun wv hb => by
        refine (rtable_any WW HV.out A n c X (x.extract 0 k) y wv (HN.out.below (HBx.out.bel.trans (hb.mono HBx.out.bel.size)) hX0) (by have := HBx.out.bel.size; have := hb.size; omega) hn hes hy120 _ (HD.out k)).mono ?_
        rintro e w' ⟨rfl, hF⟩
        obtain ⟨bR, p1, p2, p3, p4, p5⟩ := hF.cells8 (i := 0) (j := 0) (Nat.zero_le _) (Nat.zero_le _) (Nat.zero_le _) (.inl (Nat.zero_le _))
        rw [HFV.out] at p2
        exact ⟨rfl, ⟨bR, p1, p2, p3, p4, by have := hb.size; omega, by have := hb.size; omega⟩, hF.box.bel⟩
      have hlt : ∀ q, v.ownBlock = some q → w1.heap.size ≤ q ∧ q < wr.heap.size := own_block HO.out
      have hlen : L.length ≤ 1000 := HLEN.out
      have hsz : w1.heap.size ≤ wr.heap.size := HSZ.out
      apply wp_region_lo4 (C := fun W => Below w1.heap.size w1 W) (V := [some _, some _, some _, some _, some _, some _, none, none, none, none, some _, none, none, none]) (Fs := [(6, fun a W => ∃ T bR, a.tmps[21]? = some (.slice (some ⟨T, 0, none⟩) ((x.extract 0 k).size + 1) ((x.extract 0 k).size + 1)) ∧ W.cell? ⟨T, 0, none⟩ = some (.slice (some ⟨bR, 0, none⟩) (y.size + 1) (y.size + 1)) ∧ W.cell? ⟨bR, 0, none⟩ = some (.int .i64 fv) ∧ T < W.heap.size ∧ bR < W.heap.size ∧ wr.heap.size ≤ T ∧ wr.heap.size ≤ bR), (7, fun a W => ∃ T bR, a.tmps[22]? = some (.pointer (some ⟨T, 0, none⟩)) ∧ W.cell? ⟨T, 0, none⟩ = some (.slice (some ⟨bR, 0, none⟩) (y.size + 1) (y.size + 1)) ∧ W.cell? ⟨bR, 0, none⟩ = some (.int .i64 fv) ∧ T < W.heap.size ∧ bR < W.heap.size ∧ wr.heap.size ≤ T ∧ wr.heap.size ≤ bR), (8, fun a W => ∃ bR, a.tmps[23]? = some (.slice (some ⟨bR, 0, none⟩) (y.size + 1) (y.size + 1)) ∧ W.cell? ⟨bR, 0, none⟩ = some (.int .i64 fv) ∧ bR < W.heap.size ∧ wr.heap.size ≤ bR), (9, fun a W => ∃ bR, a.tmps[24]? = some (.pointer (some ⟨bR, 0, none⟩)) ∧ W.cell? ⟨bR, 0, none⟩ = some (.int .i64 fv) ∧ bR < W.heap.size ∧ wr.heap.size ≤ bR), (11, fun a W => ∃ g, a.tmps[26]? = some (.slice (some ⟨g, 0, none⟩) 1 1) ∧ Blk W g 3 #[.int .i64 fv] ∧ wr.heap.size ≤ g), (12, fun a W => ∃ v2, a.tmps[27]? = some v2 ∧ World.ownsRow W w1.heap.size 3 1 v2 (L.length + 1) (L.map (Value.int .i64) ++ [.int .i64 fv])), (13, fun a W => ∃ v2, a.tmps[7]? = some v2 ∧ World.ownsRow W w1.heap.size 3 1 v2 (L.length + 1) (L.map (Value.int .i64) ++ [.int .i64 fv]))]) (Ns := [(0, fun a (_ : World) => a.tmps[7]? = some v), (1, fun (_ : Act) W => Blk W w.heap.size 24 #[.int .i64 WW.ins, .int .i64 WW.del, .int .i64 WW.chg, .int .i64 WW.swp, .slice A n c]), (6, fun (_ : Act) W => Below wr.heap.size wr W), (11, fun (_ : Act) W => wr.heap.size ≤ W.heap.size), (12, fun (_ : Act) W => World.ownsRow W w1.heap.size 3 1 v L.length (L.map (Value.int .i64)) ∧ wr.heap.size ≤ W.heap.size)]) (Rel := fun i a0_ a1_ x x' => if i = 12 then (fun b0 b1 x x' => World.grownBy x x' (Value.ownBlock v)) a0_ a1_ x x' else if i = 13 then (fun b0 b1 x x' => Below x.heap.size x x') a0_ a1_ x x' else Below x.heap.size x x')
      case hm => kernel_rfl
      case hB => kernel_rfl
      case hCw => exact HBk.out.drew
      case hC =>
        intro i a a' w_ w' hw hr
        by_cases e12 : i = 12
        · subst e12
          have hr' : (fun b0 b1 x x' => World.grownBy x x' (Value.ownBlock v)) a a' w_ w' := hr
          exact hw.grown hr' hw.size (fun q e => (hlt q e).1)
        by_cases e13 : i = 13
        · subst e13
          have hr' : (fun b0 b1 x x' => Below x.heap.size x x') a a' w_ w' := hr
          exact below_to hw (Nat.le_refl _) hr'
        have hr' : Below w_.heap.size w_ w' := by simpa [e12, e13] using hr
        exact below_to hw (Nat.le_refl _) hr'
      case hst =>
        refine keeps4_cons (fun i a a' w_ w' hne hwt hs hput hr h => by
          by_cases e12 : i = 12
          · subst e12
            have hr' : (fun b0 b1 x x' => World.grownBy x x' (Value.ownBlock v)) a a' w_ w' := hr
            obtain ⟨T, bR, h1, h2, h3, h4, h5, h6, h7⟩ := h
            exact ⟨T, bR, (hs 21 (by kernel_rfl)).trans h1, (hr'.cell_far ⟨T, 0, none⟩ h4 (fun e => by have h8 : T < wr.heap.size := (hlt T e.symm).2; omega)).trans h2, (hr'.cell_far ⟨bR, 0, none⟩ h5 (fun e => by have h8 : bR < wr.heap.size := (hlt bR e.symm).2; omega)).trans h3, Nat.lt_of_lt_of_le h4 hr'.size, Nat.lt_of_lt_of_le h5 hr'.size, h6, h7⟩
          by_cases e13 : i = 13
          · subst e13
            have hr' : (fun b0 b1 x x' => Below x.heap.size x x') a a' w_ w' := hr
            obtain ⟨T, bR, h1, h2, h3, h4, h5, h6, h7⟩ := h
            exact ⟨T, bR, (hs 21 (by kernel_rfl)).trans h1, (hr'.cell (p := ⟨T, 0, none⟩) h4).trans h2, (hr'.cell (p := ⟨bR, 0, none⟩) h5).trans h3, Nat.lt_of_lt_of_le h4 hr'.size, Nat.lt_of_lt_of_le h5 hr'.size, h6, h7⟩
          have hr' : Below w_.heap.size w_ w' := by simpa [e12, e13] using hr
          obtain ⟨T, bR, h1, h2, h3, h4, h5, h6, h7⟩ := h
          exact ⟨T, bR, (hs 21 (by kernel_rfl)).trans h1, (hr'.cell (p := ⟨T, 0, none⟩) h4).trans h2, (hr'.cell (p := ⟨bR, 0, none⟩) h5).trans h3, Nat.lt_of_lt_of_le h4 hr'.size, Nat.lt_of_lt_of_le h5 hr'.size, h6, h7⟩) ?_
        refine keeps4_cons (fun i a a' w_ w' hne hwt hs hput hr h => by
          by_cases e12 : i = 12
          · subst e12
            have hr' : (fun b0 b1 x x' => World.grownBy x x' (Value.ownBlock v)) a a' w_ w' := hr
            obtain ⟨T, bR, h1, h2, h3, h4, h5, h6, h7⟩ := h
            exact ⟨T, bR, (hs 22 (by kernel_rfl)).trans h1, (hr'.cell_far ⟨T, 0, none⟩ h4 (fun e => by have h8 : T < wr.heap.size := (hlt T e.symm).2; omega)).trans h2, (hr'.cell_far ⟨bR, 0, none⟩ h5 (fun e => by have h8 : bR < wr.heap.size := (hlt bR e.symm).2; omega)).trans h3, Nat.lt_of_lt_of_le h4 hr'.size, Nat.lt_of_lt_of_le h5 hr'.size, h6, h7⟩
          by_cases e13 : i = 13
          · subst e13
            have hr' : (fun b0 b1 x x' => Below x.heap.size x x') a a' w_ w' := hr
            obtain ⟨T, bR, h1, h2, h3, h4, h5, h6, h7⟩ := h
            exact ⟨T, bR, (hs 22 (by kernel_rfl)).trans h1, (hr'.cell (p := ⟨T, 0, none⟩) h4).trans h2, (hr'.cell (p := ⟨bR, 0, none⟩) h5).trans h3, Nat.lt_of_lt_of_le h4 hr'.size, Nat.lt_of_lt_of_le h5 hr'.size, h6, h7⟩
          have hr' : Below w_.heap.size w_ w' := by simpa [e12, e13] using hr
          obtain ⟨T, bR, h1, h2, h3, h4, h5, h6, h7⟩ := h
          exact ⟨T, bR, (hs 22 (by kernel_rfl)).trans h1, (hr'.cell (p := ⟨T, 0, none⟩) h4).trans h2, (hr'.cell (p := ⟨bR, 0, none⟩) h5).trans h3, Nat.lt_of_lt_of_le h4 hr'.size, Nat.lt_of_lt_of_le h5 hr'.size, h6, h7⟩) ?_
        refine keeps4_cons (fun i a a' w_ w' hne hwt hs hput hr h => by
          by_cases e12 : i = 12
          · subst e12
            have hr' : (fun b0 b1 x x' => World.grownBy x x' (Value.ownBlock v)) a a' w_ w' := hr
            obtain ⟨bR, h1, h2, h3, h4⟩ := h
            exact ⟨bR, (hs 23 (by kernel_rfl)).trans h1, (hr'.cell_far ⟨bR, 0, none⟩ h3 (fun e => by have h8 : bR < wr.heap.size := (hlt bR e.symm).2; omega)).trans h2, Nat.lt_of_lt_of_le h3 hr'.size, h4⟩
          by_cases e13 : i = 13
          · subst e13
            have hr' : (fun b0 b1 x x' => Below x.heap.size x x') a a' w_ w' := hr
            obtain ⟨bR, h1, h2, h3, h4⟩ := h
            exact ⟨bR, (hs 23 (by kernel_rfl)).trans h1, (hr'.cell (p := ⟨bR, 0, none⟩) h3).trans h2, Nat.lt_of_lt_of_le h3 hr'.size, h4⟩
          have hr' : Below w_.heap.size w_ w' := by simpa [e12, e13] using hr
          obtain ⟨bR, h1, h2, h3, h4⟩ := h
          exact ⟨bR, (hs 23 (by kernel_rfl)).trans h1, (hr'.cell (p := ⟨bR, 0, none⟩) h3).trans h2, Nat.lt_of_lt_of_le h3 hr'.size, h4⟩) ?_
        refine keeps4_cons (fun i a a' w_ w' hne hwt hs hput hr h => by
          by_cases e12 : i = 12
          · subst e12
            have hr' : (fun b0 b1 x x' => World.grownBy x x' (Value.ownBlock v)) a a' w_ w' := hr
            obtain ⟨bR, h1, h2, h3, h4⟩ := h
            exact ⟨bR, (hs 24 (by kernel_rfl)).trans h1, (hr'.cell_far ⟨bR, 0, none⟩ h3 (fun e => by have h8 : bR < wr.heap.size := (hlt bR e.symm).2; omega)).trans h2, Nat.lt_of_lt_of_le h3 hr'.size, h4⟩
          by_cases e13 : i = 13
          · subst e13
            have hr' : (fun b0 b1 x x' => Below x.heap.size x x') a a' w_ w' := hr
            obtain ⟨bR, h1, h2, h3, h4⟩ := h
            exact ⟨bR, (hs 24 (by kernel_rfl)).trans h1, (hr'.cell (p := ⟨bR, 0, none⟩) h3).trans h2, Nat.lt_of_lt_of_le h3 hr'.size, h4⟩
          have hr' : Below w_.heap.size w_ w' := by simpa [e12, e13] using hr
          obtain ⟨bR, h1, h2, h3, h4⟩ := h
          exact ⟨bR, (hs 24 (by kernel_rfl)).trans h1, (hr'.cell (p := ⟨bR, 0, none⟩) h3).trans h2, Nat.lt_of_lt_of_le h3 hr'.size, h4⟩) ?_
        refine keeps4_cons (fun i a a' w_ w' hne hwt hs hput hr h => by
          by_cases e12 : i = 12
          · subst e12
            have hr' : (fun b0 b1 x x' => World.grownBy x x' (Value.ownBlock v)) a a' w_ w' := hr
            obtain ⟨g, h1, h2, h3⟩ := h
            exact ⟨g, (hs 26 (by kernel_rfl)).trans h1, (hr'.block g h2.lt (fun e => by have h8 : g < wr.heap.size := (hlt g e.symm).2; omega)).trans h2, h3⟩
          by_cases e13 : i = 13
          · subst e13
            have hr' : (fun b0 b1 x x' => Below x.heap.size x x') a a' w_ w' := hr
            obtain ⟨g, h1, h2, h3⟩ := h
            exact ⟨g, (hs 26 (by kernel_rfl)).trans h1, h2.to hr', h3⟩
          have hr' : Below w_.heap.size w_ w' := by simpa [e12, e13] using hr
          obtain ⟨g, h1, h2, h3⟩ := h
          exact ⟨g, (hs 26 (by kernel_rfl)).trans h1, h2.to hr', h3⟩) ?_
        refine keeps4_cons (fun i a a' w_ w' hne hwt hs hput hr h => by
          by_cases e12 : i = 12
          · exact absurd e12 hne
          by_cases e13 : i = 13
          · subst e13
            have hr' : (fun b0 b1 x x' => Below x.heap.size x x') a a' w_ w' := hr
            obtain ⟨v2, h1, h2⟩ := h
            exact ⟨v2, (hs 27 (by kernel_rfl)).trans h1, own_to8 h2 hr'⟩
          have hr' : Below w_.heap.size w_ w' := by simpa [e12, e13] using hr
          obtain ⟨v2, h1, h2⟩ := h
          exact ⟨v2, (hs 27 (by kernel_rfl)).trans h1, own_to8 h2 hr'⟩) ?_
        refine keeps4_cons (fun i a a' w_ w' hne hwt hs hput hr h => by
          by_cases e12 : i = 12
          · subst e12
            exact absurd (hwt.symm.trans (show waitsT .any _ _ 13 12 = true by kernel_rfl)) (by decide)
          by_cases e13 : i = 13
          · exact absurd e13 hne
          have hr' : Below w_.heap.size w_ w' := by simpa [e12, e13] using hr
          obtain ⟨v2, h1, h2⟩ := h
          exact ⟨v2, (hs 7 (by kernel_rfl)).trans h1, own_to8 h2 hr'⟩) ?_
        exact keeps4_nil
      case hN0 => exact pre0_cons (rfl) (pre0_cons (HBx.out.blk) (pre0_cons ((Below.refl _ _).drew) (pre0_cons (Nat.le_refl _) (pre0_cons (⟨HO.out, Nat.le_refl _⟩) (pre0_nil)))))
      case hNst =>
        refine prek_cons3 (fun i a a' w_ w' hne hwt hr h hput => by
          by_cases e12 : i = 12
          · subst e12
            exact absurd (hwt.symm.trans (show waitsT .any _ _ 12 0 = true by kernel_rfl)) (by decide)
          by_cases e13 : i = 13
          · subst e13
            exact absurd (hwt.symm.trans (show waitsT .any _ _ 13 0 = true by kernel_rfl)) (by decide)
          have hr' : Below w_.heap.size w_ w' := by simpa [e12, e13] using hr
          exact (other_slot (d := 7) (k := 13) (by kernel_rfl) hput e13).trans h) ?_
        refine prek_cons3 (fun i a a' w_ w' hne hwt hr h hput => by
          by_cases e12 : i = 12
          · subst e12
            exact absurd (hwt.symm.trans (show waitsT .any _ _ 12 1 = true by kernel_rfl)) (by decide)
          by_cases e13 : i = 13
          · subst e13
            exact absurd (hwt.symm.trans (show waitsT .any _ _ 13 1 = true by kernel_rfl)) (by decide)
          have hr' : Below w_.heap.size w_ w' := by simpa [e12, e13] using hr
          exact h.to hr') ?_
        refine prek_cons3 (fun i a a' w_ w' hne hwt hr h hput => by
          by_cases e12 : i = 12
          · subst e12
            exact absurd (hwt.symm.trans (show waitsT .any _ _ 12 6 = true by kernel_rfl)) (by decide)
          by_cases e13 : i = 13
          · subst e13
            exact absurd (hwt.symm.trans (show waitsT .any _ _ 13 6 = true by kernel_rfl)) (by decide)
          have hr' : Below w_.heap.size w_ w' := by simpa [e12, e13] using hr
          exact below_to h (Nat.le_refl _) hr') ?_
        refine prek_cons3 (fun i a a' w_ w' hne hwt hr h hput => by
          by_cases e12 : i = 12
          · subst e12
            exact absurd (hwt.symm.trans (show waitsT .any _ _ 12 11 = true by kernel_rfl)) (by decide)
          by_cases e13 : i = 13
          · subst e13
            exact absurd (hwt.symm.trans (show waitsT .any _ _ 13 11 = true by kernel_rfl)) (by decide)
          have hr' : Below w_.heap.size w_ w' := by simpa [e12, e13] using hr
          exact Nat.le_trans h hr'.size) ?_
        refine prek_cons3 (fun i a a' w_ w' hne hwt hr h hput => by
          by_cases e12 : i = 12
          · exact absurd e12 hne
          by_cases e13 : i = 13
          · subst e13
            exact absurd (hwt.symm.trans (show waitsT .any _ _ 13 12 = true by kernel_rfl)) (by decide)
          have hr' : Below w_.heap.size w_ w' := by simpa [e12, e13] using hr
          exact ⟨own_to8 h.1 hr', Nat.le_trans h.2 hr'.size⟩) ?_
        exact prek_nil3
      case hop =>
        refine ⟨?_, ?_, ?_, ?_, ?_, ?_, ?_, ?_, ?_, ?_, ?_, ?_, ?_, ?_, trivial⟩
        · intro a w_ K hw hS hd hN hK
          have s7 := hN _ (List.mem_cons_self ..) rfl
          rw [if_pos (want_free rfl)]
          replace s7 : a.tmps[7]? = some v := s7
          go_simp
          exact hK _ _ (Below.refl _ _) (vok rfl) (facts_cons (fun h => absurd h (by decide)) (facts_cons (fun h => absurd h (by decide)) (facts_cons (fun h => absurd h (by decide)) (facts_cons (fun h => absurd h (by decide)) (facts_cons (fun h => absurd h (by decide)) (facts_cons (fun h => absurd h (by decide)) (facts_cons (fun h => absurd h (by decide)) facts_nil)))))))
        · intro a w_ K hw hS hd hN hK
          have s3 := hS.at 3 (by kernel_rfl) rfl
          have hB1 := hN _ (List.mem_cons_of_mem _ (List.mem_cons_self ..)) rfl
          rw [if_pos (want_free rfl)]
          have c0 := (hB1.cell 0).trans (show _ = some (Value.int IntKind.i64 WW.ins) from rfl)
          have c1 := (hB1.cell 1).trans (show _ = some (Value.int IntKind.i64 WW.del) from rfl)
          have c2 := (hB1.cell 2).trans (show _ = some (Value.int IntKind.i64 WW.chg) from rfl)
          have c3 := (hB1.cell 3).trans (show _ = some (Value.int IntKind.i64 WW.swp) from rfl)
          have c4 := (hB1.cell 4).trans (show _ = some (Value.slice A n c) from rfl)
          go_simp
          exact hK _ _ (Below.refl _ _) (vok rfl) (facts_cons (fun h => absurd h (by decide)) (facts_cons (fun h => absurd h (by decide)) (facts_cons (fun h => absurd h (by decide)) (facts_cons (fun h => absurd h (by decide)) (facts_cons (fun h => absurd h (by decide)) (facts_cons (fun h => absurd h (by decide)) (facts_cons (fun h => absurd h (by decide)) facts_nil)))))))
        · intro a w_ K hw hS hd hN hK
          have s1 := hS.at 1 (by kernel_rfl) rfl
          rw [if_pos (want_free rfl)]
          go_simp
          exact hK _ _ (Below.refl _ _) (vok rfl) (facts_cons (fun h => absurd h (by decide)) (facts_cons (fun h => absurd h (by decide)) (facts_cons (fun h => absurd h (by decide)) (facts_cons (fun h => absurd h (by decide)) (facts_cons (fun h => absurd h (by decide)) (facts_cons (fun h => absurd h (by decide)) (facts_cons (fun h => absurd h (by decide)) facts_nil)))))))
        · intro a w_ K hw hS hd hN hK
          have s8 := hS.at 8 (by kernel_rfl) rfl
          rw [if_pos (want_free rfl)]
          go_simp
          exact hK _ _ (Below.refl _ _) (vok rfl) (facts_cons (fun h => absurd h (by decide)) (facts_cons (fun h => absurd h (by decide)) (facts_cons (fun h => absurd h (by decide)) (facts_cons (fun h => absurd h (by decide)) (facts_cons (fun h => absurd h (by decide)) (facts_cons (fun h => absurd h (by decide)) (facts_cons (fun h => absurd h (by decide)) facts_nil)))))))
        · intro a w_ K hw hS hd hN hK
          have s17 := (hd 2 (by kernel_rfl)).at (d := 17) rfl rfl rfl
          have s18 := (hd 3 (by kernel_rfl)).at (d := 18) rfl rfl rfl
          rw [if_pos (want_free rfl)]
          go_simp
          exact hK _ _ (Below.refl _ _) (vok rfl) (facts_cons (fun h => absurd h (by decide)) (facts_cons (fun h => absurd h (by decide)) (facts_cons (fun h => absurd h (by decide)) (facts_cons (fun h => absurd h (by decide)) (facts_cons (fun h => absurd h (by decide)) (facts_cons (fun h => absurd h (by decide)) (facts_cons (fun h => absurd h (by decide)) facts_nil)))))))
        · intro a w_ K hw hS hd hN hK
          have s2 := hS.at 2 (by kernel_rfl) rfl
          rw [if_pos (want_free rfl)]
          go_simp
          exact hK _ _ (Below.refl _ _) (vok rfl) (facts_cons (fun h => absurd h (by decide)) (facts_cons (fun h => absurd h (by decide)) (facts_cons (fun h => absurd h (by decide)) (facts_cons (fun h => absurd h (by decide)) (facts_cons (fun h => absurd h (by decide)) (facts_cons (fun h => absurd h (by decide)) (facts_cons (fun h => absurd h (by decide)) facts_nil)))))))
        · intro a w_ K hw hS hd hN hK
          have s16 := (hd 1 (by kernel_rfl)).at (d := 16) rfl rfl rfl
          have s19 := (hd 4 (by kernel_rfl)).at (d := 19) rfl rfl rfl
          have s20 := (hd 5 (by kernel_rfl)).at (d := 20) rfl rfl rfl
          have hB6 := hN _ (List.mem_cons_of_mem _ (List.mem_cons_of_mem _ (List.mem_cons_self ..))) rfl
          rw [if_pos (want_free rfl)]
          go_simp
          refine (CT w_ hB6).mono ?_
          rintro e w' ⟨rfl, ⟨bR, p1, p2, p3, p4, p5, p6⟩, hb⟩
          exact hK _ _ hb (vfree rfl) (facts_cons (fun _ => ⟨_, bR, hS.put_at (by kernel_rfl) _, p1, p2, p3, p4, p5, p6⟩) (facts_cons (fun h => absurd h (by decide)) (facts_cons (fun h => absurd h (by decide)) (facts_cons (fun h => absurd h (by decide)) (facts_cons (fun h => absurd h (by decide)) (facts_cons (fun h => absurd h (by decide)) (facts_cons (fun h => absurd h (by decide)) facts_nil)))))))
        · intro a w_ K hw hS hd hN hK
          obtain ⟨T, bR, s21, p1, p2, p3, p4, p5, p6⟩ := (hd 6 (by kernel_rfl)).2 _ (List.mem_cons_self ..) rfl
          rw [if_pos (want_free rfl)]
          go_simp
          exact hK _ _ (Below.refl _ _) (vfree rfl) (facts_cons (fun h => absurd h (by decide)) (facts_cons (fun _ => ⟨T, bR, hS.put_at (by kernel_rfl) _, p1, p2, p3, p4, p5, p6⟩) (facts_cons (fun h => absurd h (by decide)) (facts_cons (fun h => absurd h (by decide)) (facts_cons (fun h => absurd h (by decide)) (facts_cons (fun h => absurd h (by decide)) (facts_cons (fun h => absurd h (by decide)) facts_nil)))))))
        · intro a w_ K hw hS hd hN hK
          obtain ⟨T, bR, s22, p1, p2, p3, p4, p5, p6⟩ := (hd 7 (by kernel_rfl)).2 _ (List.mem_cons_of_mem _ (List.mem_cons_self ..)) rfl
          rw [if_pos (want_free rfl)]
          go_simp
          exact hK _ _ (Below.refl _ _) (vfree rfl) (facts_cons (fun h => absurd h (by decide)) (facts_cons (fun h => absurd h (by decide)) (facts_cons (fun _ => ⟨bR, hS.put_at (by kernel_rfl) _, p2, p4, p6⟩) (facts_cons (fun h => absurd h (by decide)) (facts_cons (fun h => absurd h (by decide)) (facts_cons (fun h => absurd h (by decide)) (facts_cons (fun h => absurd h (by decide)) facts_nil)))))))
        · intro a w_ K hw hS hd hN hK
          obtain ⟨bR, s23, p2, p4, p6⟩ := (hd 8 (by kernel_rfl)).2 _ (List.mem_cons_of_mem _ (List.mem_cons_of_mem _ (List.mem_cons_self ..))) rfl
          rw [if_pos (want_free rfl)]
          go_simp
          exact hK _ _ (Below.refl _ _) (vfree rfl) (facts_cons (fun h => absurd h (by decide)) (facts_cons (fun h => absurd h (by decide)) (facts_cons (fun h => absurd h (by decide)) (facts_cons (fun _ => ⟨bR, hS.put_at (by kernel_rfl) _, p2, p4, p6⟩) (facts_cons (fun h => absurd h (by decide)) (facts_cons (fun h => absurd h (by decide)) (facts_cons (fun h => absurd h (by decide)) facts_nil)))))))
        · intro a w_ K hw hS hd hN hK
          obtain ⟨bR, s24, p2, p4, p6⟩ := (hd 9 (by kernel_rfl)).2 _ (List.mem_cons_of_mem _ (List.mem_cons_of_mem _ (List.mem_cons_of_mem _ (List.mem_cons_self ..)))) rfl
          rw [if_pos (want_free rfl)]
          go_simp
          exact hK _ _ (Below.refl _ _) (vok rfl) (facts_cons (fun h => absurd h (by decide)) (facts_cons (fun h => absurd h (by decide)) (facts_cons (fun h => absurd h (by decide)) (facts_cons (fun h => absurd h (by decide)) (facts_cons (fun h => absurd h (by decide)) (facts_cons (fun h => absurd h (by decide)) (facts_cons (fun h => absurd h (by decide)) facts_nil)))))))
        · intro a w_ K hw hS hd hN hK
          have s25 := (hd 10 (by kernel_rfl)).at (d := 25) rfl rfl rfl
          have hB11 := hN _ (List.mem_cons_of_mem _ (List.mem_cons_of_mem _ (List.mem_cons_of_mem _ (List.mem_cons_self ..)))) rfl
          rw [if_pos (want_free rfl)]
          go_simp
          exact hK _ _ (below_one8 _ _) (vfree rfl) (facts_cons (fun h => absurd h (by decide)) (facts_cons (fun h => absurd h (by decide)) (facts_cons (fun h => absurd h (by decide)) (facts_cons (fun h => absurd h (by decide)) (facts_cons (fun _ => ⟨_, hS.put_at (by kernel_rfl) _, Blk.new _ _ _, hB11⟩) (facts_cons (fun h => absurd h (by decide)) (facts_cons (fun h => absurd h (by decide)) facts_nil)))))))
        · intro a w_ K hw hS hd hN hK
          have s15 := (hd 0 (by kernel_rfl)).at (d := 15) rfl rfl rfl
          obtain ⟨b26, s26, r26, g26⟩ := (hd 11 (by kernel_rfl)).2 _ (List.mem_cons_of_mem _ (List.mem_cons_of_mem _ (List.mem_cons_of_mem _ (List.mem_cons_of_mem _ (List.mem_cons_self ..))))) rfl
          obtain ⟨hOwn, hSz⟩ := hN _ (List.mem_cons_of_mem _ (List.mem_cons_of_mem _ (List.mem_cons_of_mem _ (List.mem_cons_of_mem _ (List.mem_cons_self ..))))) rfl
          rw [if_pos (want_free rfl)]
          refine wp_append8 (.tmp 15) (.tmp 26) 25 rfl w1.heap.size 3 i0 (.int .i64 0) 1 8 wu hi0 hz0 hz1 hz2 rfl (by decide) v L.length _ (eval_at8 s15) hOwn ⟨b26, 0, none⟩ 1 1 [.int .i64 fv] (eval_at8 s26) rfl (fun j u hj => by
            have := (r26.cell j).trans (show _ = some u by rw [← hj]; simp)
            unfold Addr.add
            split
            · rename_i h0; rw [h0] at this; exact this
            · simpa using this) (by intro u hu; rw [List.mem_singleton.1 hu]; rfl) (by unfold maxLen; omega) (by omega) (by omega) ?_
          intro v2 w' h2 h3
          exact hK v2 w' h3 (vfree rfl) (facts_cons (fun h => absurd h (by decide)) (facts_cons (fun h => absurd h (by decide)) (facts_cons (fun h => absurd h (by decide)) (facts_cons (fun h => absurd h (by decide)) (facts_cons (fun h => absurd h (by decide)) (facts_cons (fun _ => ⟨v2, hS.put_at (by kernel_rfl) _, h2⟩) (facts_cons (fun h => absurd h (by decide)) facts_nil)))))))
        · intro a w_ K hw hS hd hN hK
          obtain ⟨v27, s27, o27⟩ := (hd 12 (by kernel_rfl)).2 _ (List.mem_cons_of_mem _ (List.mem_cons_of_mem _ (List.mem_cons_of_mem _ (List.mem_cons_of_mem _ (List.mem_cons_of_mem _ (List.mem_cons_self ..)))))) rfl
          rw [if_pos (want_free rfl)]
          go_simp
          exact hK _ _ (Below.refl _ _) (vfree rfl) (facts_cons (fun h => absurd h (by decide)) (facts_cons (fun h => absurd h (by decide)) (facts_cons (fun h => absurd h (by decide)) (facts_cons (fun h => absurd h (by decide)) (facts_cons (fun h => absurd h (by decide)) (facts_cons (fun h => absurd h (by decide)) (facts_cons (fun _ => ⟨v27, hS.put_at (by kernel_rfl) _, o27⟩) facts_nil)))))))
      case hfin =>
        intro a w_ hw hS hk
        have s15 := (hk 0 (by decide)).at (d := 15) rfl rfl rfl
        have s16 := (hk 1 (by decide)).at (d := 16) rfl rfl rfl
        have s17 := (hk 2 (by decide)).at (d := 17) rfl rfl rfl
        have s18 := (hk 3 (by decide)).at (d := 18) rfl rfl rfl
        have s19 := (hk 4 (by decide)).at (d := 19) rfl rfl rfl
        have s20 := (hk 5 (by decide)).at (d := 20) rfl rfl rfl
        obtain ⟨T, bR, s21, p1, p2, p3, p4, p5, p6⟩ := (hk 6 (by decide)).2 _ (List.mem_cons_self ..) rfl
        obtain ⟨T, bR, s22, p1, p2, p3, p4, p5, p6⟩ := (hk 7 (by decide)).2 _ (List.mem_cons_of_mem _ (List.mem_cons_self ..)) rfl
        obtain ⟨bR, s23, p2, p4, p6⟩ := (hk 8 (by decide)).2 _ (List.mem_cons_of_mem _ (List.mem_cons_of_mem _ (List.mem_cons_self ..))) rfl
        obtain ⟨bR, s24, p2, p4, p6⟩ := (hk 9 (by decide)).2 _ (List.mem_cons_of_mem _ (List.mem_cons_of_mem _ (List.mem_cons_of_mem _ (List.mem_cons_self ..)))) rfl
        have s25 := (hk 10 (by decide)).at (d := 25) rfl rfl rfl
        obtain ⟨b26, s26, r26, g26⟩ := (hk 11 (by decide)).2 _ (List.mem_cons_of_mem _ (List.mem_cons_of_mem _ (List.mem_cons_of_mem _ (List.mem_cons_of_mem _ (List.mem_cons_self ..))))) rfl
        obtain ⟨v27, s27, o27⟩ := (hk 12 (by decide)).2 _ (List.mem_cons_of_mem _ (List.mem_cons_of_mem _ (List.mem_cons_of_mem _ (List.mem_cons_of_mem _ (List.mem_cons_of_mem _ (List.mem_cons_self ..)))))) rfl
        obtain ⟨v7, s7, o7⟩ := (hk 13 (by decide)).2 _ (List.mem_cons_of_mem _ (List.mem_cons_of_mem _ (List.mem_cons_of_mem _ (List.mem_cons_of_mem _ (List.mem_cons_of_mem _ (List.mem_cons_of_mem _ (List.mem_cons_self ..))))))) rfl
        have hlit := hS.lit _ (by kernel_rfl) (lits_cons s15 (lits_cons s16 (lits_cons s17 (lits_cons s18 (lits_cons s19 (lits_cons s20 (lits_cons s21 (lits_cons s22 (lits_cons s23 (lits_cons s24 (lits_cons s25 (lits_cons s26 (lits_cons s27 (lits_cons s7 lits_nil))))))))))))))
        rw [hlit]
        have HO9 : Hid (w_.ownsRow w1.heap.size 3 1 v7 (rowL WW x.data.toList y.data.toList (k + 1)).length ((rowL WW x.data.toList y.data.toList (k + 1)).map (Value.int .i64))) := by
          show World.ownsRow _ _ _ _ _ _ _
          rw [HRS.out, List.length_append, List.map_append]
          exact o7
        have HB9 := hide hw
        clear o7 o27 r26 g26 hw
        simp only [litT, List.setIfInBounds_toArray, List.set_cons_succ, List.set_cons_zero]
        clear hlit hk hS
        go_wp2_with fail
        go_roundw
        case rel => exact ⟨k + 1, by go_num, by omega, HO9.out, HB9.out⟩
        case measure => simp [intOf] <;> omega
    · obtain rfl : k = x.size + 1 := by omega
      have e1 : decide (((x.size + 1 : Nat) : Int) ≤ (x.size : Int)) = false := decide_eq_false (by omega)
      have e1' : decide (x.size + 1 ≤ x.size) = false := decide_eq_false (by omega)
      have HIV := hide (IntsV.of_own HO.out)
      have HBE := hide (HB.out.bel.trans (HBk.out.mono HB.out.bel.size))
      go_wp2_with fail
      go_ret
      exact ⟨_, rfl, HIV.out, HBE.out⟩
end Go.Proofs.Ytnpdhbagfkilkaa

/- The reference of layer 18: Ahead. -/
set_option linter.unusedVariables false
set_option linter.unusedSimpArgs false
namespace Go.Proofs.Ytnpdhbagfkilkaa
open Go.RowKit

theorem ahead_no {W : Wt} {x y : List UInt8} (h : ok3 W x y = false) : ahead W x y = 0 ∧ errn (ok3 W x y) = 1 := by simp [ahead, errn, h]
theorem okText_take {l : List UInt8} (h : okText l = true) (k : Nat) : okText (l.take k) = true := by
  unfold okText at h ⊢
  simp only [Bool.and_eq_true, decide_eq_true_eq, List.all_eq_true] at h ⊢
  exact ⟨fun c hc => h.1 c (List.mem_of_mem_take hc), by rw [List.length_take]; omega⟩
theorem row_F {W : Wt} {x y : List UInt8} {N n1 i : Nat} {v : Int} (h : (rowL W x (y.take n1) N)[i]? = some v) : v = Wt.F W x y n1 i := by
  unfold rowL at h
  rw [List.getElem?_map] at h
  rcases Nat.lt_or_ge i N with hi | hi
  · rw [List.getElem?_range hi] at h
    have h := (Option.some.inj h).symm
    rw [h]; dsimp only; rw [F_row]; rfl
  · rw [List.getElem?_eq_none (by simpa using hi)] at h; cases h
theorem row_bounds {W : Wt} (hW : W.valid = true) {x y : List UInt8} (hx : x.length ≤ 120) (hy : y.length ≤ 120) {N i : Nat} {v : Int} (h : (rowL W x y N)[i]? = some v) : 0 ≤ v ∧ v ≤ 1000000 := by
  have hv : v = Wt.F W x y y.length i := by
    have h2 : (rowL W x (y.take y.length) N)[i]? = some v := by rw [List.take_length]; exact h
    exact row_F h2
  rw [hv, F_row]
  have hd := Wt.isDist hW (x := x.take i) (y := y) (by rw [List.length_take]; omega) hy
  exact ⟨hd.lo 0 0, hd.hi 0 0 (Nat.zero_le _) (Nat.zero_le _)⟩
set_option maxRecDepth 100000 in
set_option maxHeartbeats 8000000 in
theorem rahead_any (W : Wt) (A : Option Addr) (n c X : Nat) (x y : ByteArray) (w : World) (hN : Near w X A n W.near) (hX0 : X ≤ w.heap.size) (hn : n ≤ 140737488355328) (hx : x.size ≤ maxLen) (hy : y.size ≤ maxLen) :
    Calls Try.prog 17 #[wval W A n c, .string x, .string y] w fun e w' => e = .returned (.tuple #[.int .i64 (ahead W x.data.toList y.data.toList), .int .i64 (errn (ok3 W x.data.toList y.data.toList))]) ∧ Below w.heap.size w w' := by
  have HN := hide hN
  have HB := hide (Box.start w W A n c)
  clear hN
  go_enter Try.func17, Try.ntmps17
  unfold wval
  go_upto_region 1 with fail
  generalize w.alloc (.cells #[.int .i64 W.ins, .int .i64 W.del, .int .i64 W.chg, .int .i64 W.swp, .slice A n c] 24) = w1 at *
  obtain ⟨U, hU, g, u0, rfl, hgu, hgi⟩ := cls w1
  have xs_0 := fun u => (((HB.out.blk.to (hgu u)).cell 0).trans (show _ = some (Value.int IntKind.i64 W.ins) from rfl))
  have xs_1 := fun u => (((HB.out.blk.to (hgu u)).cell 1).trans (show _ = some (Value.int IntKind.i64 W.del) from rfl))
  have xs_2 := fun u => (((HB.out.blk.to (hgu u)).cell 2).trans (show _ = some (Value.int IntKind.i64 W.chg) from rfl))
  have xs_3 := fun u => (((HB.out.blk.to (hgu u)).cell 3).trans (show _ = some (Value.int IntKind.i64 W.swp) from rfl))
  have xs_4 := fun u => (((HB.out.blk.to (hgu u)).cell 4).trans (show _ = some (Value.slice A n c) from rfl))
  have CV : ∀ u, Calls Try.prog 21 #[.agg #[.int .i64 W.ins, .int .i64 W.del, .int .i64 W.chg, .int .i64 W.swp, .slice A n c]] (g u) fun e w' => e = .returned (.bool W.valid) ∧ ∃ u', w' = g u' := fun u => cls_call hgu hgi (fun Wd hb => rvalid8_any W A n c X Wd (HN.out.below (below_to HB.out.bel (Nat.le_refl _) hb) hX0) (by have := (below_to HB.out.bel (Nat.le_refl _) hb).size; omega) hn) u
  have CX : ∀ u, Calls Try.prog 29 #[.string x] (g u) fun e w' => e = .returned (.bool (okText x.data.toList)) ∧ ∃ u', w' = g u' := fun u => cls_call hgu hgi (fun Wd hb => (refText_any x Wd hx).mono (fun e w' h => ⟨h.1, h.2 ▸ Below.refl _ _⟩)) u
  have CY : ∀ u, Calls Try.prog 29 #[.string y] (g u) fun e w' => e = .returned (.bool (okText y.data.toList)) ∧ ∃ u', w' = g u' := fun u => cls_call hgu hgi (fun Wd hb => (refText_any y Wd hy).mono (fun e w' h => ⟨h.1, h.2 ▸ Below.refl _ _⟩)) u
  cases hv : W.valid with
  | false =>
    rw [hv] at CV
    have HF := hide (ok3_n1 (W := W) (x := x.data.toList) (y := y.data.toList) hv)
    clear hv
    go_wp2_with (first | ((with_reducible refine (CV _).mono ?_); rintro e w' ⟨rfl, u, rfl⟩) | ((with_reducible refine (CX _).mono ?_); rintro e w' ⟨rfl, u, rfl⟩) | ((with_reducible refine (CY _).mono ?_); rintro e w' ⟨rfl, u, rfl⟩))
    go_ret2
    exact ⟨ret_two (ahead_no HF.out).1.symm (ahead_no HF.out).2.symm, below_to HB.out.bel (Nat.le_refl _) (hgu _)⟩
  | true =>
    rw [hv] at CV
    cases hxt : okText x.data.toList with
    | false =>
      rw [hxt] at CX
      have HF := hide (ok3_n2 (W := W) (x := x.data.toList) (y := y.data.toList) hxt)
      clear hxt hv
      go_wp2_with (first | ((with_reducible refine (CV _).mono ?_); rintro e w' ⟨rfl, u, rfl⟩) | ((with_reducible refine (CX _).mono ?_); rintro e w' ⟨rfl, u, rfl⟩) | ((with_reducible refine (CY _).mono ?_); rintro e w' ⟨rfl, u, rfl⟩))
      go_ret2
      exact ⟨ret_two (ahead_no HF.out).1.symm (ahead_no HF.out).2.symm, below_to HB.out.bel (Nat.le_refl _) (hgu _)⟩
    | true =>
      rw [hxt] at CX
      cases hyt : okText y.data.toList with
      | false =>
        rw [hyt] at CY
        have HF := hide (ok3_n3 (W := W) (x := x.data.toList) (y := y.data.toList) hyt)
        clear hyt hv hxt
        go_wp2_with (first | ((with_reducible refine (CV _).mono ?_); rintro e w' ⟨rfl, u, rfl⟩) | ((with_reducible refine (CX _).mono ?_); rintro e w' ⟨rfl, u, rfl⟩) | ((with_reducible refine (CY _).mono ?_); rintro e w' ⟨rfl, u, rfl⟩))
        go_ret2
        exact ⟨ret_two (ahead_no HF.out).1.symm (ahead_no HF.out).2.symm, below_to HB.out.bel (Nat.le_refl _) (hgu _)⟩
      | true =>
        rw [hyt] at CY
        have HF := hide (ok3_yes hv hxt hyt)
        have HV := hide hv
        have HXT := hide hxt
        have HYT := hide hyt
        have hx120 : x.size ≤ 120 := by simpa using okText_len hxt
        have hy120 : y.size ≤ 120 := by simpa using okText_len hyt
        have HX := hide (okText_len hxt)
        have HXS : Hid (x.data.toList.length = x.size) := by show _ = _; simp
        have HYS : Hid (y.data.toList.length = y.size) := by show _ = _; simp
        have HY := hide (okText_len hyt)
        clear hv hxt hyt
        go_wp2_with (first | ((with_reducible refine (CV _).mono ?_); rintro e w' ⟨rfl, u, rfl⟩) | ((with_reducible refine (CX _).mono ?_); rintro e w' ⟨rfl, u, rfl⟩) | ((with_reducible refine (CY _).mono ?_); rintro e w' ⟨rfl, u, rfl⟩))
        have HBg := hide (below_to HB.out.bel (Nat.le_refl _) (hgu u))
        have HNg := hide (HN.out.below HBg.out hX0)
        have HXg : Hid (X ≤ (g u).heap.size) := by have := HBg.out.size; show _ ≤ _; omega
        have HBx := hide (HB.out.next (hgu u))
        clear CV CX CY xs_0 xs_1 xs_2 xs_3 xs_4 HB
        generalize g u = w3 at *
        clear hgu hgi
        refine (rrow_any W A n c X x y w3 HNg.out HXg.out hn HV.out HXT.out HYT.out).mono ?_
        rintro e w4 ⟨v1, rfl, hI, hb⟩
        obtain ⟨A1, c1, rfl, hI1⟩ := hI
        have hl1 := rowL_len W x.data.toList y.data.toList (x.size + 1)
        rw [hl1] at hI1 ⊢
        have HI := hide hI1
        have HB4 := hide hb
        have HBw := hide (HBx.out.next hb)
        have HRM : Hid (Wt.rowMin W x.data.toList y.data.toList = Wt.minL (rowL W x.data.toList y.data.toList (x.size + 1))) := by show _ = _; unfold Wt.rowMin rowL; simp
        have HFB : Hid (∀ (i : Nat) (v : Int), (rowL W x.data.toList y.data.toList (x.size + 1))[i]? = some v → 0 ≤ v ∧ v ≤ 1000000) := fun i v h => row_bounds HV.out HX.out HY.out h
        clear hI1 hb HBx hl1
        obtain ⟨L, hL⟩ : ∃ L, rowL W x.data.toList y.data.toList (x.size + 1) = L := ⟨_, rfl⟩
        rw [hL] at HI HRM HFB
        clear hL
        obtain ⟨ad1, r0, ea, hab, hr0, cr0⟩ := ints_at HI.out (k := 0) (by omega)
        subst ea
        have e00 : ad1.add 0 = ad1 := by unfold Addr.add; simp
        have cr1 : w4.cell? ad1 = some (.int .i64 r0) := by rw [e00] at cr0; exact cr0
        have k00 : (0 : Int) < (x.size : Int) + 1 := by omega
        have HR0 : Hid (L.headD 0 = r0) := by show _ = _; cases L with | nil => cases hr0 | cons a l => simpa using hr0
        have HLL : Hid (L.length = x.size + 1) := HI.out.len
        have HRB := hide (HFB.out 0 r0 hr0)
        clear hr0 e00 hab
        go_wp2_with fail
        clear cr0 cr1
        go_loopw [9, 10] (fun t9 t10 wr => ∃ (m : Nat) (b : Int), t10 = .int .i64 (m : Int) ∧ t9 = .int .i64 b ∧ (m ≤ x.size + 1 ∧ b = (L.take m).foldl min (L.headD 0) ∧ (0 ≤ b ∧ b ≤ 1000000)) ∧ wr = w4) (fun _ t10 _ => x.size + 1 - (intOf t10).toNat)
        case atStart => exact ⟨0, r0, rfl, rfl, ⟨Nat.zero_le _, by rw [HR0.out]; rfl, HRB.out⟩, rfl⟩
        case round =>
          obtain ⟨m, b, rfl, rfl, ⟨hm, hb, hbb⟩, hw⟩ := hrel
          have hw := hw.symm
          subst hw
          have HBE := hide hb
          clear hb
          by_cases hml : m < x.size + 1
          · have e1 : decide ((m : Int) < (x.size : Int) + 1) = true := decide_eq_true (by omega)
            have e1' : decide ((m : Int) < ((x.size + 1 : Nat) : Int)) = true := decide_eq_true (by omega)
            have e1'' : decide (m < x.size + 1) = true := decide_eq_true hml
            obtain ⟨ad, v, ea, hab, hlv, cv⟩ := ints_at HI.out (k := m) hml
            injection ea with ea
            subst ea
            have k0 : (0 : Int) ≤ (m : Int) := by omega
            have k1 : (m : Int) < (x.size : Int) + 1 := by omega
            have k1' : (m : Int) < ((x.size + 1 : Nat) : Int) := by omega
            have HTK : Hid ((L.take (m + 1)).foldl min (L.headD 0) = min b v) := by show _ = _; rw [List.take_add_one, hlv, HBE.out, List.foldl_append]; rfl
            have hvb := HFB.out m v hlv
            have HML := hide hml
            clear hlv hab hml
            by_cases hlt : v < b
            · have g1 : decide (v < b) = true := decide_eq_true hlt
              have HN2 : Hid (v = (L.take (m + 1)).foldl min (L.headD 0)) := by show _ = _; rw [HTK.out]; omega
              clear hlt
              go_wp2_with fail
              go_roundw
              case rel => exact ⟨m + 1, v, by go_num, rfl, ⟨by have := HML.out; omega, HN2.out, hvb⟩, by first | trivial | rfl⟩
              case measure => have := HML.out; simp [intOf] <;> omega
            · have g1 : decide (v < b) = false := decide_eq_false hlt
              have HN2 : Hid (b = (L.take (m + 1)).foldl min (L.headD 0)) := by show _ = _; rw [HTK.out]; omega
              clear hlt
              go_wp2_with fail
              go_roundw
              case rel => exact ⟨m + 1, b, by go_num, rfl, ⟨by have := HML.out; omega, HN2.out, hbb⟩, by first | trivial | rfl⟩
              case measure => have := HML.out; simp [intOf] <;> omega
          · obtain rfl : m = x.size + 1 := by omega
            have e1 : decide (((x.size + 1 : Nat) : Int) < (x.size : Int) + 1) = false := decide_eq_false (by omega)
            have e1' : decide (((x.size + 1 : Nat) : Int) < ((x.size + 1 : Nat) : Int)) = false := by simp
            have e1'' : decide (x.size + 1 < x.size + 1) = false := by simp
            have e1q : decide ((x.size : Int) + 1 < (x.size : Int) + 1) = false := by simp
            have HBM : Hid (b = Wt.rowMin W x.data.toList y.data.toList) := by show _ = _; rw [HBE.out, HRM.out]; unfold Wt.minL; rw [List.take_of_length_le (by rw [HLL.out]; exact Nat.le_refl _)]
            have ebs : bs y.data.toList = y := by cases y; simp [bs]
            by_cases hp0 : y.size = 0
            · have hyl : y.data.toList = [] := List.eq_nil_of_length_eq_zero (by simpa using hp0)
              have e0 : y.toList.isEmpty = true := by rw [← ebs, bs_toList, hyl]; rfl
              have HR : Hid (ahead W x.data.toList y.data.toList = b) := by show _ = _; rw [HBM.out]; unfold ahead; rw [HF.out, if_pos rfl]; unfold Wt.aheadV; rw [if_neg (by rw [HYS.out]; omega)]
              clear hp0 hyl ebs
              go_wp2_with fail
              go_ret2
              exact ⟨ret_two HR.out.symm (by rw [HF.out]; rfl), HBg.out.trans (HB4.out.mono HBg.out.size)⟩
            · obtain ⟨n1, hn1⟩ : ∃ n1, y.size = n1 + 1 := ⟨y.size - 1, by omega⟩
              have e0 : y.toList.isEmpty = false := by
                rw [← ebs, bs_toList]
                cases hq : y.data.toList with
                | nil => have h1 := HYS.out; rw [hq] at h1; simp at h1; omega
                | cons a l => rfl
              obtain ⟨z, hz⟩ : ∃ z, y.data.toList[n1]? = some z := ⟨_, List.getElem?_eq_getElem (by simp; omega)⟩
              have iz := index_ba y n1 z hz
              have en : (y.size : Int) - 1 = (n1 : Int) := by omega
              have k4 : (0 : Int) ≤ (n1 : Int) := by omega
              have k5 : (n1 : Int) < (y.size : Int) := by omega
              have k6 : (n1 : Int) ≤ (y.size : Int) := by omega
              have HZ := hide hz
              have HNY := hide hn1
              have HYK : Hid (okText (y.extract 0 n1).data.toList = true) := by show _ = _; rw [ext_list]; exact okText_take HYT.out n1
              obtain ⟨d0, d1, d2, d3, d4⟩ := HBw.out.facts
              clear hz hn1 hp0 ebs
              go_upto_region 13 with fail
              clear iz e0 e1 e1' e1'' e1q d0 d1 d2 d3 d4
              obtain ⟨U2, hU2, g2, u2, rfl, hgu2, hgi2⟩ := cls w4
              have CR : ∀ u, Calls Try.prog 35 #[.agg #[.int .i64 W.ins, .int .i64 W.del, .int .i64 W.chg, .int .i64 W.swp, .slice A n c], .string x, .string (y.extract 0 n1)] (g2 u) fun e w' => ∃ v, e = .returned v ∧ IntsV w' v (rowL W x.data.toList (y.data.toList.take n1) (x.size + 1)) ∧ Below (g2 u).heap.size (g2 u) w' := fun u => by
                have hbu := HB4.out.trans ((hgu2 u).mono HB4.out.size)
                refine (rrow_any W A n c X x (y.extract 0 n1) (g2 u) (HNg.out.below hbu HXg.out) (by have := hbu.size; have := HXg.out; omega) hn HV.out HXT.out HYK.out).mono ?_
                rintro e w' ⟨v, rfl, h1, h2⟩
                rw [ext_list] at h1
                exact ⟨v, rfl, h1, h2⟩
              have xs_0 := fun u => (((HBw.out.blk.to (hgu2 u)).cell 0).trans (show _ = some (Value.int IntKind.i64 W.ins) from rfl))
              have xs_1 := fun u => (((HBw.out.blk.to (hgu2 u)).cell 1).trans (show _ = some (Value.int IntKind.i64 W.del) from rfl))
              have xs_2 := fun u => (((HBw.out.blk.to (hgu2 u)).cell 2).trans (show _ = some (Value.int IntKind.i64 W.chg) from rfl))
              have xs_3 := fun u => (((HBw.out.blk.to (hgu2 u)).cell 3).trans (show _ = some (Value.int IntKind.i64 W.swp) from rfl))
              have xs_4 := fun u => (((HBw.out.blk.to (hgu2 u)).cell 4).trans (show _ = some (Value.slice A n c) from rfl))
              have s7 : IntKind.i64.wrap ((y.size : Int) - 1) = (n1 : Int) := by rw [en]; exact IntWalk.i64_in _ (by omega)
              have k8 : n1 ≤ y.size := by omega
              refine wp_region_class_tail g2 7 (by kernel_rfl) (by kernel_rfl) (hgi2 _ (hgu2 _).drew) ?_
              simp only [List.take_succ_cons, List.take_zero, List.drop_succ_cons, List.drop_zero]
              repeat (go_big_quiet_step (fail))
              refine wpQuiet_nil ?_
              intro w5 hw5
              obtain ⟨u, rfl⟩ := hw5
              go_wp2_with fail
              refine (CR u).mono ?_
              rintro e w6 ⟨v2, rfl, hI2, hb6⟩
              have hb5 := (hgu2 u).trans (hb6.mono (hgu2 u).size)
              clear xs_0 xs_1 xs_2 xs_3 xs_4 s7 k8
              focus
                obtain ⟨A2, c2, rfl, hI2⟩ := hI2
                rw [rowL_len] at hI2 ⊢
                have HI2 := hide hI2
                have HB5 := hide (hb5)
                have HBv := hide (HBw.out.next hb5)
                have HFB2 : Hid (∀ (i : Nat) (v : Int), (rowL W x.data.toList (y.data.toList.take n1) (x.size + 1))[i]? = some v → (0 ≤ v ∧ v ≤ 1000000) ∧ v = Wt.F W x.data.toList y.data.toList n1 i) := fun i v h => ⟨row_bounds HV.out HX.out (by have := HY.out; rw [List.length_take]; omega) h, row_F h⟩
                have HA0 : Hid (Wt.afold W x.data.toList y.data.toList 0 = b) := by show _ = _; rw [HBM.out]; rfl
                clear hI2 hb5 hb6 CR HI HFB
                generalize rowL W x.data.toList (y.data.toList.take n1) (x.size + 1) = L2 at *
                clear en
                go_wp2_with fail
                go_loopw [9, 13] (fun t9 t13 wr => ∃ (m : Nat) (b2 : Int), t13 = .int .i64 (m : Int) ∧ t9 = .int .i64 b2 ∧ (m ≤ x.size ∧ (m = 0 ∨ m < x.size) ∧ Wt.afold W x.data.toList y.data.toList m = b2 ∧ (0 ≤ b2 ∧ b2 ≤ 1000000)) ∧ Below w6.heap.size w6 wr) (fun _ t13 _ => x.size - (intOf t13).toNat)
                case atStart => exact ⟨0, b, rfl, rfl, ⟨Nat.zero_le _, .inl rfl, HA0.out, hbb⟩, Below.refl _ _⟩
                case round =>
                  obtain ⟨m, b2, rfl, rfl, ⟨hm, hm0, ha, hb2⟩, hB⟩ := hrel
                  have HBr := hide hB
                  have HAF := hide ha
                  clear hB ha HA0
                  by_cases hmx : m + 1 < x.size
                  · have e1 : decide ((m : Int) + 1 < (x.size : Int)) = true := decide_eq_true (by omega)
                    have e1' : decide (m + 1 < x.size) = true := decide_eq_true hmx
                    obtain ⟨a, ha⟩ : ∃ a, x.data.toList[m]? = some a := ⟨_, List.getElem?_eq_getElem (by simp; omega)⟩
                    obtain ⟨a', ha'⟩ : ∃ a, x.data.toList[m + 1]? = some a := ⟨_, List.getElem?_eq_getElem (by simp; omega)⟩
                    have ix := index_ba x m a ha
                    have ix1 := index_ba x (m + 1) a' ha'
                    have em : (((m + 1 : Nat)) : Int) = (m : Int) + 1 := by omega
                    rw [em] at ix1
                    obtain ⟨ad2, v2, ea, hab, hlv, cv⟩ := ints_at (HI2.out.below HBr.out (Nat.le_refl _)) (k := m) (by omega)
                    subst ea
                    obtain ⟨d0, d1, d2, d3, d4⟩ := (HBv.out.next HBr.out).facts
                    have hsw := Wt.valid_num HV.out
                    have hv2 := (HFB2.out m v2 hlv).1
                    have HV2 := hide (HFB2.out m v2 hlv).2
                    have k0 : (0 : Int) ≤ (m : Int) := by omega
                    have k1 : (m : Int) < (x.size : Int) := by omega
                    have k2 : (m : Int) + 1 < (x.size : Int) := by omega
                    have k3 : (0 : Int) ≤ (m : Int) + 1 := by omega
                    have k7 : (m : Int) < (x.size : Int) + 1 := by omega
                    have k7' : (m : Int) < ((x.size + 1 : Nat) : Int) := by omega
                    have s9 : IntKind.i64.wrap (v2 + W.swp) = v2 + W.swp := IntWalk.i64_in _ (by omega)
                    have s8 : IntKind.i64.wrap ((m : Int) + 1) = (m : Int) + 1 := IntWalk.i64_in _ (by omega)
                    have HOV : Hid (Wt.over x.data.toList y.data.toList m = (((a.toNat : Int) != (a'.toNat : Int)) && ((a'.toNat : Int) == (z.toNat : Int)))) := by
                      show _ = _
                      unfold Wt.over
                      rw [at_of ha, at_of ha', show y.data.toList.length - 1 = n1 by have := HNY.out; simp; omega, at_of HZ.out]
                    have HST : Hid (Wt.afold W x.data.toList y.data.toList (m + 1) = if Wt.over x.data.toList y.data.toList m then min b2 (v2 + W.swp) else b2) := by
                      show _ = _
                      unfold Wt.afold at HAF ⊢
                      rw [List.range_succ, List.foldl_append, HAF.out]
                      show (if Wt.over x.data.toList y.data.toList m then min b2 (Wt.atv (Wt.F W x.data.toList y.data.toList (y.data.toList.length - 1) m) W.swp) else b2) = _
                      rw [show y.data.toList.length - 1 = n1 by have := HNY.out; simp; omega, ← HV2.out]
                      unfold Wt.atv
                      rw [if_neg (show ¬ W.swp < 0 by omega)]
                    have HMX := hide hmx
                    clear ha ha' hlv hab hmx hm hm0 em
                    obtain ⟨q1, h1⟩ : ∃ q, ((a.toNat : Int) != (a'.toNat : Int)) = q := ⟨_, rfl⟩
                    obtain ⟨q2, h2⟩ : ∃ q, ((a'.toNat : Int) == (z.toNat : Int)) = q := ⟨_, rfl⟩
                    rw [h1, h2] at HOV
                    by_cases ho : (q1 && q2) = true
                    · have hq1 : q1 = true := by cases q1; simp at ho; rfl
                      have hq2 : q2 = true := by cases q2; simp at ho; rfl
                      rw [hq1] at h1
                      rw [hq2] at h2
                      rw [HOV.out, ho, if_pos rfl] at HST
                      clear ho hq1 hq2 HOV
                      by_cases hlt : v2 + W.swp < b2
                      · have g3 : decide (v2 + W.swp < b2) = true := decide_eq_true hlt
                        have HR : Hid (Wt.afold W x.data.toList y.data.toList (m + 1) = v2 + W.swp) := by show _ = _; rw [HST.out]; omega
                        have hv3 : 0 ≤ v2 + W.swp ∧ v2 + W.swp ≤ 1000000 := by omega
                        clear hlt
                        go_wp2_with fail
                        go_quiet (fail)
                        go_wp2_with fail
                        go_quiet (fail)
                        have HBn := hide (below_drewN HBr.out nq)
                        go_wp2_with fail
                        go_roundw
                        case rel => exact ⟨m + 1, v2 + W.swp, by go_num, rfl, ⟨by have := HMX.out; omega, .inr HMX.out, HR.out, hv3⟩, by first | exact below_drewN (below_drewN HBr.out _) _ | exact below_drewN HBr.out _⟩
                        case measure => have := HMX.out; simp [intOf] <;> omega
                      · have g3 : decide (v2 + W.swp < b2) = false := decide_eq_false hlt
                        have HR : Hid (Wt.afold W x.data.toList y.data.toList (m + 1) = b2) := by show _ = _; rw [HST.out]; omega
                        clear hlt
                        go_wp2_with fail
                        go_quiet (fail)
                        go_wp2_with fail
                        go_roundw
                        case rel => exact ⟨m + 1, b2, by go_num, rfl, ⟨by have := HMX.out; omega, .inr HMX.out, HR.out, hb2⟩, by first | exact below_drewN (below_drewN HBr.out _) _ | exact below_drewN HBr.out _⟩
                        case measure => have := HMX.out; simp [intOf] <;> omega
                    · rw [HOV.out, if_neg ho] at HST
                      have ho2 : q1 = false ∨ q2 = false := by cases q1 <;> cases q2 <;> simp_all
                      clear ho HOV
                      rcases ho2 with rfl | rfl
                      · go_wp2_with fail
                        go_quiet (fail)
                        go_wp2_with fail
                        go_roundw
                        case rel => exact ⟨m + 1, b2, by go_num, rfl, ⟨by have := HMX.out; omega, .inr HMX.out, HST.out, hb2⟩, by first | exact below_drewN (below_drewN HBr.out _) _ | exact below_drewN HBr.out _⟩
                        case measure => have := HMX.out; simp [intOf] <;> omega
                      · cases q1 with
                        | false =>
                          go_wp2_with fail
                          go_quiet (fail)
                          go_wp2_with fail
                          go_roundw
                          case rel => exact ⟨m + 1, b2, by go_num, rfl, ⟨by have := HMX.out; omega, .inr HMX.out, HST.out, hb2⟩, by first | exact below_drewN (below_drewN HBr.out _) _ | exact below_drewN HBr.out _⟩
                          case measure => have := HMX.out; simp [intOf] <;> omega
                        | true =>
                          go_wp2_with fail
                          go_quiet (fail)
                          go_wp2_with fail
                          go_roundw
                          case rel => exact ⟨m + 1, b2, by go_num, rfl, ⟨by have := HMX.out; omega, .inr HMX.out, HST.out, hb2⟩, by first | exact below_drewN (below_drewN HBr.out _) _ | exact below_drewN HBr.out _⟩
                          case measure => have := HMX.out; simp [intOf] <;> omega
                  · have e1 : decide ((m : Int) + 1 < (x.size : Int)) = false := decide_eq_false (by omega)
                    have e1' : decide (m + 1 < x.size) = false := decide_eq_false hmx
                    have hme : m = x.data.toList.length - 1 := by simp; omega
                    have HR : Hid (ahead W x.data.toList y.data.toList = b2) := by
                      show _ = _
                      unfold ahead
                      rw [HF.out, if_pos rfl]
                      unfold Wt.aheadV
                      rw [if_pos (by have := HNY.out; simp; omega), ← hme, HAF.out]
                    clear hme hmx
                    go_wp2_with fail
                    go_ret2
                    exact ⟨ret_two HR.out.symm (by rw [HF.out]; rfl), HBg.out.trans ((HB4.out.trans ((HB5.out.trans (HBr.out.mono HB5.out.size)).mono HB4.out.size)).mono HBg.out.size)⟩
end Go.Proofs.Ytnpdhbagfkilkaa

/- Chapter 18: the walk of EditMatchesReference. -/
set_option linter.unusedVariables false
set_option linter.unusedSimpArgs false
namespace Go.Proofs.Ytnpdhbagfkilkaa
open Go.RowKit

section
variable {w wc w' : World} {W : Wt} {A : Option Addr} {n c : Nat}
theorem rw_dist (h : LawS w wc W A n c) (hn : n ≤ 140737488355328) (x y : ByteArray) (hx : x.size ≤ maxLen) (hy : y.size ≤ maxLen) :
    Calls Try.prog 13 #[wval W A n c, .string x, .string y] wc fun e w' => e = .returned (.tuple #[.int .i64 (dist W x.data.toList y.data.toList), .int .i64 (errn (ok3 W x.data.toList y.data.toList))]) ∧ Below wc.heap.size wc w' ∧ LawS w w' W A n c :=
  (rdistance_any W A n c w.heap.size x y wc h.near h.bel.size hn hx hy).mono fun _ _ ⟨h1, h2⟩ => ⟨h1, h2, h.next h2⟩
theorem rw_best (h : LawS w wc W A n c) (hn : n ≤ 140737488355328) (x y : ByteArray) (hx : x.size ≤ maxLen) (hy : y.size ≤ maxLen) :
    Calls Try.prog 15 #[wval W A n c, .string x, .string y] wc fun e w' => ∃ v, e = .returned (.tuple #[v, .int .i64 (dist W x.data.toList y.data.toList), .int .i64 (errn (ok3 W x.data.toList y.data.toList))]) ∧ IntsV w' v (bestL W x.data.toList y.data.toList) ∧ Below wc.heap.size wc w' ∧ LawS w w' W A n c :=
  (rbest_any W A n c w.heap.size x y wc h.near h.bel.size hn hx hy).mono fun _ _ ⟨v, h1, h2, h3⟩ => ⟨v, h1, h2, h3, h.next h3⟩
theorem rw_ahead (h : LawS w wc W A n c) (hn : n ≤ 140737488355328) (x y : ByteArray) (hx : x.size ≤ maxLen) (hy : y.size ≤ maxLen) :
    Calls Try.prog 17 #[wval W A n c, .string x, .string y] wc fun e w' => e = .returned (.tuple #[.int .i64 (ahead W x.data.toList y.data.toList), .int .i64 (errn (ok3 W x.data.toList y.data.toList))]) ∧ Below wc.heap.size wc w' ∧ LawS w w' W A n c :=
  (rahead_any W A n c w.heap.size x y wc h.near h.bel.size hn hx hy).mono fun _ _ ⟨h1, h2⟩ => ⟨h1, h2, h.next h2⟩
theorem rw_check (h : LawS w wc W A n c) (hn : n ≤ 140737488355328) (x y : ByteArray) (hx : x.size ≤ maxLen) (hy : y.size ≤ maxLen) {E : Option Addr} {ne : Nat} (ce : Nat) {l : List Int} (hE : Keep wc E ne l) (hne : ne ≤ 140737488355328) :
    Calls Try.prog 19 #[wval W A n c, .string x, .string y, .slice E ne ce] wc fun e w' => e = .returned (.tuple #[.int .i64 ((Wt.check W x.data.toList y.data.toList l).getD 0), .bool (Wt.check W x.data.toList y.data.toList l).isSome]) ∧ Below wc.heap.size wc w' ∧ LawS w w' W A n c :=
  (rcheck_any W A n c wc.heap.size x y E ne ce l wc (h.near.more h.bel.size) (Nat.le_refl _) hn hx hy hE hne).mono fun _ _ ⟨h1, h2⟩ => ⟨h1, h2, h.next h2⟩
end
set_option maxRecDepth 100000 in
set_option maxHeartbeats 8000000 in
theorem match_law (W : Wt) (A : Option Addr) (n c : Nat) (x y : ByteArray) (E : Option Addr) (ne ce : Nat) (l : List Int) (w : World) (hN : Near w w.heap.size A n W.near) (hn : n ≤ 140737488355328) (hx : x.size ≤ maxLen) (hy : y.size ≤ maxLen)
    (hE : Ints w w.heap.size E ne l) (hne : ne ≤ 140737488355328) :
    Calls Try.prog 3 #[wval W A n c, .string x, .string y, .slice E ne ce] w fun e w' => e = .returned (.bool true) ∧ Below w.heap.size w w' := by
  have H0 := hide (LawS.start (c := c) hN)
  have HE0 : Hid (Keep w E ne l) := hE
  clear hN hE
  cases hf : fewB [x, y] n
  · go_enter Try.func3, Try.ntmps3
    unfold wval
    go_wp2_with fail
    refine (lw_head H0.out).mono ?_
    rintro e w1 ⟨rfl, hs⟩
    have H1 := hide hs; clear hs H0
    obtain ⟨d0, d1, d2, d3, d4⟩ := H1.out.facts
    go_wp2_with fail
    refine (lw_few2 H1.out hn x y hx hy _ rfl).mono ?_
    rintro e w2 ⟨rfl, hs⟩
    have H2 := hide hs; clear hs H1 d0 d1 d2 d3 d4
    rw [hf]
    go_wp2_with fail
    go_ret
    exact ⟨rfl, H2.out.bel⟩
  by_cases h100 : 100 < ne
  · have e100 : decide ((100 : Int) < (ne : Int)) = true := decide_eq_true (by omega)
    have e100' : decide (100 < ne) = true := decide_eq_true h100
    go_enter Try.func3, Try.ntmps3
    unfold wval
    go_wp2_with fail
    refine (lw_head H0.out).mono ?_
    rintro e w1 ⟨rfl, hs⟩
    have H1 := hide hs; clear hs H0
    obtain ⟨d0, d1, d2, d3, d4⟩ := H1.out.facts
    go_wp2_with fail
    refine (lw_few2 H1.out hn x y hx hy _ rfl).mono ?_
    rintro e w2 ⟨rfl, hs⟩
    have H2 := hide hs; clear hs H1 d0 d1 d2 d3 d4
    rw [hf]
    go_wp2_with fail
    go_ret
    exact ⟨rfl, H2.out.bel⟩
  have e100 : decide ((100 : Int) < (ne : Int)) = false := decide_eq_false (by omega)
  have e100' : decide (100 < ne) = false := decide_eq_false h100
  obtain ⟨v1, hv1⟩ : ∃ v, errn (ok3 W x.data.toList y.data.toList) = v := ⟨_, rfl⟩
  obtain ⟨D1, hD1⟩ : ∃ v, dist W x.data.toList y.data.toList = v := ⟨_, rfl⟩
  obtain ⟨A1, hA1⟩ : ∃ v, ahead W x.data.toList y.data.toList = v := ⟨_, rfl⟩
  obtain ⟨C1, hC1⟩ : ∃ v, (Wt.check W x.data.toList y.data.toList l).getD 0 = v := ⟨_, rfl⟩
  obtain ⟨C2, hC2⟩ : ∃ v, (Wt.check W x.data.toList y.data.toList l).isSome = v := ⟨_, rfl⟩
  obtain ⟨BL, hBL⟩ : ∃ v, bestL W x.data.toList y.data.toList = v := ⟨_, rfl⟩
  obtain ⟨VV, hVV⟩ : ∃ v, W.valid = v := ⟨_, rfl⟩
  have hbl : BL.length ≤ 240 := by rw [← hBL]; exact bestL_len
  have Q1 := hide hv1; have Q2 := hide hD1; have Q3 := hide hA1; have Q4 := hide hC1; have Q5 := hide hC2; have Q6 := hide hBL; have Q7 := hide hVV
  clear hv1 hD1 hA1 hC1 hC2 hBL hVV
  go_enter Try.func3, Try.ntmps3
  unfold wval
  go_wp2_with fail
  refine (lw_head H0.out).mono ?_
  rintro e w1 ⟨rfl, hs⟩
  have H1 := hide hs; clear hs H0
  obtain ⟨d0, d1, d2, d3, d4⟩ := H1.out.facts
  go_wp2_with fail
  refine (lw_few2 H1.out hn x y hx hy _ rfl).mono ?_
  rintro e w2 ⟨rfl, hs⟩
  have H2 := hide hs; clear hs H1 d0 d1 d2 d3 d4
  rw [hf]
  obtain ⟨d0, d1, d2, d3, d4⟩ := H2.out.facts
  go_wp2_with fail
  refine (lw_dist H2.out hn x y hx hy).mono ?_
  rintro e w3 ⟨rfl, hb, hs⟩
  rw [Q1.out, Q2.out]
  have H3 := hide hs; clear hs hb H2 d0 d1 d2 d3 d4
  obtain ⟨d0, d1, d2, d3, d4⟩ := H3.out.facts
  go_wp2_with fail
  refine (rw_dist H3.out hn x y hx hy).mono ?_
  rintro e w4 ⟨rfl, hb, hs⟩
  rw [Q1.out, Q2.out]
  have H4 := hide hs; clear hs hb H3 d0 d1 d2 d3 d4
  obtain ⟨d0, d1, d2, d3, d4⟩ := H4.out.facts
  go_wp2_with fail
  refine (lw_best H4.out hn x y hx hy).mono ?_
  rintro e w5 ⟨v, rfl, hv, hb, hs⟩
  rw [Q6.out] at hv
  obtain ⟨V1, cv1, rfl, hv⟩ := hv
  have KA5 : Hid (Keep w5 V1 BL.length BL) := hv
  clear hv
  rw [Q1.out, Q2.out]
  have H5 := hide hs; clear hs hb H4 d0 d1 d2 d3 d4
  obtain ⟨d0, d1, d2, d3, d4⟩ := H5.out.facts
  go_wp2_with fail
  refine (rw_best H5.out hn x y hx hy).mono ?_
  rintro e w6 ⟨v, rfl, hv, hb, hs⟩
  have KA6 := hide (KA5.out.next hb)
  rw [Q6.out] at hv
  obtain ⟨V2, cv2, rfl, hv⟩ := hv
  have KB6 : Hid (Keep w6 V2 BL.length BL) := hv
  clear hv
  rw [Q1.out, Q2.out]
  have H6 := hide hs; clear hs hb H5 d0 d1 d2 d3 d4 KA5
  obtain ⟨d0, d1, d2, d3, d4⟩ := H6.out.facts
  go_wp2_with fail
  refine (lw_ahead H6.out hn x y hx hy).mono ?_
  rintro e w7 ⟨rfl, hb, hs⟩
  have KA7 := hide (KA6.out.next hb)
  have KB7 := hide (KB6.out.next hb)
  rw [Q1.out, Q3.out]
  have H7 := hide hs; clear hs hb H6 d0 d1 d2 d3 d4 KA6 KB6
  obtain ⟨d0, d1, d2, d3, d4⟩ := H7.out.facts
  go_wp2_with fail
  refine (rw_ahead H7.out hn x y hx hy).mono ?_
  rintro e w8 ⟨rfl, hb, hs⟩
  have KA8 := hide (KA7.out.next hb)
  have KB8 := hide (KB7.out.next hb)
  rw [Q1.out, Q3.out]
  have H8 := hide hs; clear hs hb H7 d0 d1 d2 d3 d4 KA7 KB7
  obtain ⟨d0, d1, d2, d3, d4⟩ := H8.out.facts
  go_wp2_with fail
  refine (lw_check H8.out hn x y hx hy ce (HE0.out.next H8.out.bel) (by omega)).mono ?_
  rintro e w9 ⟨rfl, hb, hs⟩
  have KA9 := hide (KA8.out.next hb)
  have KB9 := hide (KB8.out.next hb)
  rw [Q4.out, Q5.out]
  have H9 := hide hs; clear hs hb H8 d0 d1 d2 d3 d4 KA8 KB8
  obtain ⟨d0, d1, d2, d3, d4⟩ := H9.out.facts
  go_wp2_with fail
  refine (rw_check H9.out hn x y hx hy ce (HE0.out.next H9.out.bel) (by omega)).mono ?_
  rintro e w10 ⟨rfl, hb, hs⟩
  have KA10 := hide (KA9.out.next hb)
  have KB10 := hide (KB9.out.next hb)
  rw [Q4.out, Q5.out]
  have H10 := hide hs; clear hs hb H9 d0 d1 d2 d3 d4 KA9 KB9
  go_upto_region 12 with fail
  obtain ⟨U, hU, g, u0, rfl, hgu, hgi⟩ := cls w10
  have xs_0 := fun u => (((H10.out.box.blk.to (hgu u)).cell 0).trans (show _ = some (Value.int IntKind.i64 W.ins) from rfl))
  have xs_1 := fun u => (((H10.out.box.blk.to (hgu u)).cell 1).trans (show _ = some (Value.int IntKind.i64 W.del) from rfl))
  have xs_2 := fun u => (((H10.out.box.blk.to (hgu u)).cell 2).trans (show _ = some (Value.int IntKind.i64 W.chg) from rfl))
  have xs_3 := fun u => (((H10.out.box.blk.to (hgu u)).cell 3).trans (show _ = some (Value.int IntKind.i64 W.swp) from rfl))
  have xs_4 := fun u => (((H10.out.box.blk.to (hgu u)).cell 4).trans (show _ = some (Value.slice A n c) from rfl))
  have D1' : ∀ u, Calls Try.prog 20 #[.agg #[.int .i64 W.ins, .int .i64 W.del, .int .i64 W.chg, .int .i64 W.swp, .slice A n c]] (g u) fun e w' => e = .returned (.bool VV) ∧ ∃ u', w' = g u' := fun u => cls_call hgu hgi (fun Wd hb => by
    have h1 := H10.out.next hb
    have := valid_try W A n c w.heap.size Wd h1.near h1.bel.size hn
    rw [Q7.out] at this
    exact this) u
  have D2' : ∀ u, Calls Try.prog 21 #[.agg #[.int .i64 W.ins, .int .i64 W.del, .int .i64 W.chg, .int .i64 W.swp, .slice A n c]] (g u) fun e w' => e = .returned (.bool VV) ∧ ∃ u', w' = g u' := fun u => cls_call hgu hgi (fun Wd hb => by
    have h1 := H10.out.next hb
    have := rvalid8_any W A n c w.heap.size Wd h1.near h1.bel.size hn
    rw [Q7.out] at this
    exact this) u
  have D3' : ∀ u, Calls Try.prog 22 #[.slice V1 BL.length cv1, .slice V2 BL.length cv2] (g u) fun e w' => e = .returned (.bool true) ∧ ∃ u', w' = g u' := fun u => cls_call hgu hgi (fun Wd hb => by
    have h1 := KA10.out.next hb
    have h2 := KB10.out.next hb
    refine (ints_any V1 V2 BL.length BL.length cv1 cv2 BL BL Wd.heap.size Wd h1 h2 (by omega) (by omega)).mono ?_
    rintro e w' ⟨h3, q, h4⟩
    exact ⟨by rw [h3]; simp, h4 ▸ below_drewN (Below.refl _ _) q⟩) u
  have p1 : (VV == VV) = true := by simp
  have p2 : (D1 == D1) = true := by simp
  have p3 : (v1 == v1) = true := by simp
  have p4 : (A1 == A1) = true := by simp
  have p5 : (C1 == C1) = true := by simp
  have p6 : (C2 == C2) = true := by simp
  refine wp_region_class g (by kernel_rfl) (by kernel_rfl) (hgi _ (hgu _).drew) ?_
  repeat (go_big_quiet_step (first | with_reducible exact D1' _ | with_reducible exact D2' _ | with_reducible exact D3' _))
  refine wpQuiet_nil ?_
  intro w11 hw11
  obtain ⟨u, rfl⟩ := hw11
  go_wp2_with fail
  go_ret
  exact ⟨rfl, below_to H10.out.bel (Nat.le_refl _) (hgu u)⟩
end Go.Proofs.Ytnpdhbagfkilkaa
