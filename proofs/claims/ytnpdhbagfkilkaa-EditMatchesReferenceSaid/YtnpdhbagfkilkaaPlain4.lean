/- The plain side: distances are the least costs of ways to edit. -/
import Derived.Test.YtnpdhbagfkilkaaPlain3
set_option linter.unusedVariables false
set_option linter.unusedSimpArgs false
namespace Go.Proofs.Ytnpdhbagfkilkaa
namespace Wt

/-! the best of some steps -/
theorem best_spec {T : Nat → Nat → Int} {i j : Nat} : ∀ {l : List (Int × Int × Int)} (b : Int), -1 ≤ b → (∀ s ∈ l, 0 ≤ s.1 → 0 ≤ s.1 + T (i + s.2.1.toNat) (j + s.2.2.toNat)) →
    (l.foldl (bestStep T i j) b = b ∨ ∃ s ∈ l, 0 ≤ s.1 ∧ l.foldl (bestStep T i j) b = s.1 + T (i + s.2.1.toNat) (j + s.2.2.toNat)) ∧
    (0 ≤ b → l.foldl (bestStep T i j) b ≤ b) ∧ (∀ s ∈ l, 0 ≤ s.1 → 0 ≤ l.foldl (bestStep T i j) b ∧ l.foldl (bestStep T i j) b ≤ s.1 + T (i + s.2.1.toNat) (j + s.2.2.toNat)) ∧ (0 ≤ b → 0 ≤ l.foldl (bestStep T i j) b)
  | [], b, _, _ => ⟨.inl rfl, fun _ => Int.le_refl _, by simp, fun h => h⟩
  | s :: l, b, hb, h => by
    simp only [List.foldl_cons]
    by_cases hs : s.1 < 0
    · have e : bestStep T i j b s = b := by simp [bestStep, hs]
      rw [e]
      obtain ⟨h1, h2, h3, h4⟩ := best_spec (T := T) (i := i) (j := j) (l := l) b hb fun s' hs' => h s' (by simp [hs'])
      refine ⟨?_, h2, ?_, h4⟩
      · rcases h1 with h1 | ⟨s', hs', h1⟩
        · exact .inl h1
        · exact .inr ⟨s', by simp [hs'], h1⟩
      · intro s' hs' h0
        rcases List.mem_cons.1 hs' with rfl | hs'
        · omega
        · exact h3 s' hs' h0
    · have hv := h s (by simp) (by omega)
      have hn : 0 ≤ bestStep T i j b s ∧ bestStep T i j b s ≤ s.1 + T (i + s.2.1.toNat) (j + s.2.2.toNat) ∧ (bestStep T i j b s = b ∨ bestStep T i j b s = s.1 + T (i + s.2.1.toNat) (j + s.2.2.toNat)) ∧ (0 ≤ b → bestStep T i j b s ≤ b) := by
        simp only [bestStep, hs, if_false, better]
        split <;> omega
      obtain ⟨n1, n2, n3, n4⟩ := hn
      obtain ⟨h1, h2, h3, h4⟩ := best_spec (T := T) (i := i) (j := j) (l := l) (bestStep T i j b s) (by omega) fun s' hs' => h s' (by simp [hs'])
      have h5 := h2 n1
      have h6 := h4 n1
      refine ⟨?_, fun hb0 => by have := n4 hb0; omega, ?_, fun _ => h6⟩
      · rcases h1 with h1 | ⟨s', hs', h1⟩
        · rcases n3 with n3 | n3
          · exact .inl (h1.trans n3)
          · exact .inr ⟨s, by simp, by omega, h1.trans n3⟩
        · exact .inr ⟨s', by simp [hs'], h1⟩
      · intro s' hs' h0
        rcases List.mem_cons.1 hs' with rfl | hs'
        · omega
        · exact h3 s' hs' h0

/-! ways to edit -/
def cc (W : Wt) (a b : UInt8) : Int := (look W.near (a.toNat : Int) (b.toNat : Int)).getD W.chg
inductive Al (W : Wt) : List UInt8 → List UInt8 → Int → Prop
  | nil : Al W [] [] 0
  | same (a : UInt8) {x y : List UInt8} {c : Int} : Al W x y c → Al W (a :: x) (a :: y) c
  | chg (a b : UInt8) {x y : List UInt8} {c : Int} : a ≠ b → Al W x y c → Al W (a :: x) (b :: y) (W.cc a b + c)
  | ins (b : UInt8) {x y : List UInt8} {c : Int} : Al W x y c → Al W x (b :: y) (W.ins + c)
  | del (a : UInt8) {x y : List UInt8} {c : Int} : Al W x y c → Al W (a :: x) y (W.del + c)
  | swp (a b : UInt8) {x y : List UInt8} {c : Int} : a ≠ b → Al W x y c → Al W (a :: b :: x) (b :: a :: y) (W.swp + c)

theorem at_eq {x : List UInt8} {i : Nat} (h : i < x.length) : at_ x i = (x[i].toNat : Int) := by simp [at_, h]
theorem at_inj {x y : List UInt8} {i j : Nat} (h : i < x.length) (h' : j < y.length) : at_ x i = at_ y j ↔ x[i] = y[j] := by
  rw [at_eq h, at_eq h']
  constructor
  · intro e; exact UInt8.toNat_inj.1 (by omega)
  · intro e; rw [e]

theorem D_rec {W : Wt} (hW : W.valid = true) {x y : List UInt8} (hx : x.length ≤ 120) (hy : y.length ≤ 120) {i j : Nat} (hi : i ≤ x.length) (hj : j ≤ y.length) :
    max (best (D W x y) i j (W.steps x y i j)) 0 = D W x y i j := (isDist hW hx hy).rec_ i j _ hi hj (fun _ _ _ _ _ _ _ => rfl)

theorem D_le {W : Wt} (hW : W.valid = true) {x y : List UInt8} (hx : x.length ≤ 120) (hy : y.length ≤ 120) {i j : Nat} (hi : i ≤ x.length) (hj : j ≤ y.length) {s : Int × Int × Int} (hs : s ∈ W.steps x y i j) (h0 : 0 ≤ s.1) :
    D W x y i j ≤ s.1 + D W x y (i + s.2.1.toNat) (j + s.2.2.toNat) := by
  have hlo := (isDist hW hx hy).lo
  obtain ⟨_, _, h3, _⟩ := best_spec (T := D W x y) (i := i) (j := j) (l := W.steps x y i j) (-1) (by omega) (fun s _ h => by have := hlo (i + s.2.1.toNat) (j + s.2.2.toNat); omega)
  obtain ⟨h4, h5⟩ := h3 s hs h0
  rw [← D_rec hW hx hy hi hj]
  unfold best
  omega

theorem D_some {W : Wt} (hW : W.valid = true) {x y : List UInt8} (hx : x.length ≤ 120) (hy : y.length ≤ 120) {i j : Nat} (hi : i ≤ x.length) (hj : j ≤ y.length) (hne : i < x.length ∨ j < y.length) :
    ∃ s ∈ W.steps x y i j, 0 ≤ s.1 ∧ D W x y i j = s.1 + D W x y (i + s.2.1.toNat) (j + s.2.2.toNat) := by
  have hlo := (isDist hW hx hy).lo
  have hn := valid_num hW
  obtain ⟨h1, _, h3, _⟩ := best_spec (T := D W x y) (i := i) (j := j) (l := W.steps x y i j) (-1) (by omega) (fun s _ h => by have := hlo (i + s.2.1.toNat) (j + s.2.2.toNat); omega)
  have hr := D_rec hW hx hy hi hj
  unfold best at hr
  have hex : ∃ s ∈ W.steps x y i j, 0 ≤ s.1 := by
    rcases hne with h | h
    · exact ⟨delete W x i, by simp [steps], by simp [delete, h]; omega⟩
    · exact ⟨insert W y j, by simp [steps], by simp [insert, h]; omega⟩
  obtain ⟨s0, hs0, h00⟩ := hex
  have := h3 s0 hs0 h00
  rcases h1 with h1 | ⟨s, hs, h0, h1⟩
  · omega
  · exact ⟨s, hs, h0, by omega⟩
theorem D_end {W : Wt} (hW : W.valid = true) {x y : List UInt8} (hx : x.length ≤ 120) (hy : y.length ≤ 120) : D W x y x.length y.length = 0 := by
  rw [← D_rec hW hx hy (Nat.le_refl _) (Nat.le_refl _)]
  have : W.steps x y x.length y.length = [no, no, no, no, no, no] := by
    simp [steps, same, change, insert, delete, swap, show ¬ x.length + 1 < x.length by omega]
  rw [this]
  rfl

theorem drop_cons {x : List UInt8} {i : Nat} (h : i < x.length) : x.drop i = x[i] :: x.drop (i + 1) := List.drop_eq_getElem_cons h
theorem of_drop {x r : List UInt8} {a : UInt8} {i : Nat} (h : x.drop i = a :: r) : ∃ h : i < x.length, x[i] = a ∧ x.drop (i + 1) = r := by
  have hi : i < x.length := by
    rcases Nat.lt_or_ge i x.length with h1 | h1
    · exact h1
    · rw [List.drop_eq_nil_of_le h1] at h; cases h
  rw [drop_cons hi] at h
  injection h with h1 h2
  exact ⟨hi, h1, h2⟩

/-- the table's numbers are costs of ways to edit what is left .. -/
theorem Al_D {W : Wt} (hW : W.valid = true) {x y : List UInt8} (hx : x.length ≤ 120) (hy : y.length ≤ 120) : ∀ (n i j : Nat), rem x y i j ≤ n → i ≤ x.length → j ≤ y.length → Al W (x.drop i) (y.drop j) (D W x y i j)
  | n, i, j, hn, hi, hj => by
    by_cases hne : i < x.length ∨ j < y.length
    · obtain ⟨s, hs, h0, e⟩ := D_some hW hx hy hi hj hne
      match n with
      | 0 => unfold rem at hn; omega
      | n + 1 =>
      have hf := (steps_fit hW hi hj s hs).resolve_left (by omega)
      obtain ⟨f1, f2, f3, f4, f5, f6⟩ := hf
      have ih := Al_D hW hx hy n (i + s.2.1.toNat) (j + s.2.2.toNat) (by unfold rem at *; omega) (by omega) (by omega)
      rw [e]
      simp only [steps, List.mem_cons, List.not_mem_nil, or_false] at hs
      rcases hs with rfl | rfl | rfl | rfl | rfl | rfl
      · simp at h0
      · unfold same at h0 ih ⊢
        split at h0
        · rename_i hc
          rw [if_pos hc] at ih ⊢
          have he := (at_inj hc.1 hc.2.1).1 hc.2.2
          have ih' : Al W (x.drop (i + 1)) (y.drop (j + 1)) (D W x y (i + 1) (j + 1)) := ih
          rw [drop_cons hc.1, drop_cons hc.2.1, he]
          show Al W _ _ (0 + D W x y (i + 1) (j + 1))
          rw [Int.zero_add]
          exact Al.same _ ih'
        · simp at h0
      · unfold change at h0 ih ⊢
        split at h0
        · rename_i hc
          rw [if_pos hc] at ih ⊢
          have hab : x[i] ≠ y[j] := fun h => hc.2.2 ((at_inj hc.1 hc.2.1).2 h)
          rw [drop_cons hc.1, drop_cons hc.2.1]
          have ih' : Al W (x.drop (i + 1)) (y.drop (j + 1)) (D W x y (i + 1) (j + 1)) := ih
          obtain ⟨c1, c2, c3⟩ := hc
          have hcc : (look W.near (at_ x i) (at_ y j)).getD W.chg = W.cc x[i] y[j] := by unfold cc; rw [at_eq c1, at_eq c2]
          show Al W _ _ ((look W.near (at_ x i) (at_ y j)).getD W.chg + D W x y (i + 1) (j + 1))
          rw [hcc]
          exact Al.chg _ _ hab ih'
        · simp at h0
      · unfold insert at h0 ih ⊢
        split at h0
        · rename_i hc
          rw [if_pos hc] at ih ⊢
          have ih' : Al W (x.drop i) (y.drop (j + 1)) (D W x y i (j + 1)) := ih
          rw [drop_cons hc]
          exact Al.ins y[j] ih'
        · simp at h0
      · unfold delete at h0 ih ⊢
        split at h0
        · rename_i hc
          rw [if_pos hc] at ih ⊢
          have ih' : Al W (x.drop (i + 1)) (y.drop j) (D W x y (i + 1) j) := ih
          rw [drop_cons hc]
          exact Al.del x[i] ih'
        · simp at h0
      · unfold swap at h0 ih ⊢
        split at h0
        · rename_i hc
          rw [if_pos hc] at ih ⊢
          obtain ⟨c1, c2, c3, c4, c5⟩ := hc
          have hab : x[i] ≠ y[j] := fun h => c3 ((at_inj (by omega) (by omega)).2 h)
          have e1 := (at_inj (show i < x.length by omega) c2).1 c4
          have e2 := (at_inj c1 (show j < y.length by omega)).1 c5
          rw [drop_cons (show i < x.length by omega), drop_cons c1, drop_cons (show j < y.length by omega), drop_cons c2, e1, ← e2]
          have ih' : Al W (x.drop (i + 1 + 1)) (y.drop (j + 1 + 1)) (D W x y (i + 2) (j + 2)) := ih
          rw [e1, ← e2] at hab
          exact Al.swp _ _ hab ih'
        · simp at h0
    · have e1 : i = x.length := by omega
      have e2 : j = y.length := by omega
      subst e1 e2
      rw [D_end hW hx hy, List.drop_length, List.drop_length]
      exact Al.nil
/-- .. and the least -/
theorem D_min {W : Wt} (hW : W.valid = true) {x y : List UInt8} (hx : x.length ≤ 120) (hy : y.length ≤ 120) {x' y' : List UInt8} {c : Int} (h : Al W x' y' c) : ∀ (i j : Nat), x' = x.drop i → y' = y.drop j → i ≤ x.length → j ≤ y.length → D W x y i j ≤ c := by
  have hv := valid_num hW
  induction h with
  | nil =>
    intro i j e1 e2 hi hj
    have h1 : i = x.length := by have := congrArg List.length e1; simp at this; omega
    have h2 : j = y.length := by have := congrArg List.length e2; simp at this; omega
    rw [h1, h2, D_end hW hx hy]; omega
  | @same a x1 y1 c _ ih =>
    intro i j e1 e2 hi hj
    obtain ⟨i1, a1, r1⟩ := of_drop e1.symm
    obtain ⟨j1, b1, r2⟩ := of_drop e2.symm
    have := ih (i + 1) (j + 1) r1.symm r2.symm (by omega) (by omega)
    have hs := D_le hW hx hy hi hj (s := same x y i j) (by simp [steps])
    have e : same x y i j = (0, 1, 1) := by unfold same; rw [if_pos ⟨i1, j1, (at_inj i1 j1).2 (by rw [a1, b1])⟩]
    rw [e] at hs
    have := hs (by decide)
    simp at this
    omega
  | @chg a b x1 y1 c hab _ ih =>
    intro i j e1 e2 hi hj
    obtain ⟨i1, a1, r1⟩ := of_drop e1.symm
    obtain ⟨j1, b1, r2⟩ := of_drop e2.symm
    have := ih (i + 1) (j + 1) r1.symm r2.symm (by omega) (by omega)
    have hs := D_le hW hx hy hi hj (s := change W x y i j) (by simp [steps])
    have e : change W x y i j = (W.cc a b, 1, 1) := by unfold change; rw [if_pos ⟨i1, j1, fun h => hab (by rw [← a1, ← b1]; exact (at_inj i1 j1).1 h)⟩, at_eq i1, at_eq j1, a1, b1]; rfl
    have hc : 0 ≤ W.cc a b := by
      unfold cc
      cases hl : look W.near (a.toNat : Int) (b.toNat : Int) with
      | none => simp; omega
      | some c => simpa using (look_le hW hl).1
    rw [e] at hs
    have := hs hc
    simp at this
    omega
  | @ins b x1 y1 c _ ih =>
    intro i j e1 e2 hi hj
    obtain ⟨j1, b1, r2⟩ := of_drop e2.symm
    have := ih i (j + 1) e1 r2.symm (by omega) (by omega)
    have hs := D_le hW hx hy hi hj (s := insert W y j) (by simp [steps])
    have e : insert W y j = (W.ins, 0, 1) := by unfold insert; rw [if_pos j1]
    rw [e] at hs
    have := hs (by simp; omega)
    simp at this
    omega
  | @del a x1 y1 c _ ih =>
    intro i j e1 e2 hi hj
    obtain ⟨i1, a1, r1⟩ := of_drop e1.symm
    have := ih (i + 1) j r1.symm e2 (by omega) (by omega)
    have hs := D_le hW hx hy hi hj (s := delete W x i) (by simp [steps])
    have e : delete W x i = (W.del, 1, 0) := by unfold delete; rw [if_pos i1]
    rw [e] at hs
    have := hs (by simp; omega)
    simp at this
    omega
  | @swp a b x1 y1 c hab _ ih =>
    intro i j e1 e2 hi hj
    obtain ⟨i1, a1, r1⟩ := of_drop e1.symm
    obtain ⟨i2, a2, r1⟩ := of_drop r1
    obtain ⟨j1, b1, r2⟩ := of_drop e2.symm
    obtain ⟨j2, b2, r2⟩ := of_drop r2
    have := ih (i + 2) (j + 2) r1.symm r2.symm (by omega) (by omega)
    have hs := D_le hW hx hy hi hj (s := swap W x y i j) (by simp [steps])
    have e : swap W x y i j = (W.swp, 2, 2) := by
      unfold swap
      rw [if_pos ⟨i2, j2, fun h => hab (by rw [← a1, ← b1]; exact (at_inj i1 j1).1 h), (at_inj i1 j2).2 (by rw [a1, b2]), (at_inj i2 j1).2 (by rw [a2, b1])⟩]
    rw [e] at hs
    have := hs (by simp; omega)
    simp at this
    omega

theorem dist_al {W : Wt} {x y : List UInt8} (h : ok3 W x y = true) : Al W x y (dist W x y) := by
  have hd : dist W x y = D W x y 0 0 := by simp [dist, h]
  simp only [ok3, Bool.and_eq_true] at h
  have := Al_D h.1.1 (okText_len h.1.2) (okText_len h.2) _ 0 0 (Nat.le_refl _) (by omega) (by omega)
  rw [hd]
  simpa using this
theorem dist_min {W : Wt} {x y : List UInt8} (h : ok3 W x y = true) {c : Int} (hc : Al W x y c) : dist W x y ≤ c := by
  have hd : dist W x y = D W x y 0 0 := by simp [dist, h]
  simp only [ok3, Bool.and_eq_true] at h
  rw [hd]
  exact D_min h.1.1 (okText_len h.1.2) (okText_len h.2) hc 0 0 (by simp) (by simp) (by omega) (by omega)
theorem dist_eq {W : Wt} {x y : List UInt8} (h : ok3 W x y = true) {c : Int} (hc : Al W x y c) (hm : ∀ d, Al W x y d → c ≤ d) : dist W x y = c := by
  have h1 := dist_min h hc
  have h2 := hm _ (dist_al h)
  omega
end Wt
end Go.Proofs.Ytnpdhbagfkilkaa
