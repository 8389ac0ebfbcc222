/- Several texts as one, in build order. -/
import Derived.Test.YtnpdhbagfkilkaaMA
import Derived.Deep.DeepCutAuto
import Derived.BigQuiet
import Derived.StillTail
import Derived.Deep.Quiet
import Derived.Lib.SlBytesRow
import Derived.OwnWalk
/- The plain side: the distances exist. -/
set_option linter.unusedVariables false
set_option linter.unusedSimpArgs false
namespace Go.Proofs.Ytnpdhbagfkilkaa
namespace Wt

/-- the distances of what is left, by so many rounds at most -/
def DF (W : Wt) (x y : List UInt8) : Nat → Nat → Nat → Int
  | 0, _, _ => 0
  | n + 1, i, j => max (best (DF W x y n) i j (W.steps x y i j)) 0
def rem (x y : List UInt8) (i j : Nat) : Nat := (x.length - i) + (y.length - j)
def D (W : Wt) (x y : List UInt8) (i j : Nat) : Int := DF W x y (rem x y i j + 1) i j

theorem best_congr {T T' : Nat → Nat → Int} {i j : Nat} : ∀ {l : List (Int × Int × Int)} (b : Int), (∀ s ∈ l, 0 ≤ s.1 → T (i + s.2.1.toNat) (j + s.2.2.toNat) = T' (i + s.2.1.toNat) (j + s.2.2.toNat)) →
    l.foldl (bestStep T i j) b = l.foldl (bestStep T' i j) b
  | [], _, _ => rfl
  | s :: l, b, h => by
    simp only [List.foldl_cons]
    have e : bestStep T i j b s = bestStep T' i j b s := by
      unfold bestStep
      by_cases hs : s.1 < 0
      · simp [hs]
      · rw [h s (by simp) (by omega)]
    rw [e]
    exact best_congr _ fun s' hs' => h s' (by simp [hs'])

theorem DF_stable {W : Wt} (hW : W.valid = true) {x y : List UInt8} : ∀ (n m i j : Nat), i ≤ x.length → j ≤ y.length → rem x y i j < n → rem x y i j < m → DF W x y n i j = DF W x y m i j
  | 0, _, _, _, _, _, h, _ => by omega
  | _ + 1, 0, _, _, _, _, _, h => by omega
  | n + 1, m + 1, i, j, hi, hj, hn, hm => by
    unfold DF
    have : best (DF W x y n) i j (W.steps x y i j) = best (DF W x y m) i j (W.steps x y i j) := by
      refine best_congr _ fun s hs h0 => ?_
      have hf := (steps_fit hW hi hj s hs).resolve_left (by omega)
      obtain ⟨f1, f2, f3, f4, f5, f6⟩ := hf
      exact DF_stable hW n m _ _ (by omega) (by omega) (by unfold rem at *; omega) (by unfold rem at *; omega)
    rw [this]

theorem best_hi {T : Nat → Nat → Int} {i j : Nat} {B : Int} : ∀ {l : List (Int × Int × Int)} (b : Int), b ≤ B → (∀ s ∈ l, 0 ≤ s.1 → s.1 + T (i + s.2.1.toNat) (j + s.2.2.toNat) ≤ B) → l.foldl (bestStep T i j) b ≤ B
  | [], _, h, _ => h
  | s :: l, b, h, hs => by
    simp only [List.foldl_cons]
    refine best_hi _ ?_ fun s' hs' => hs s' (by simp [hs'])
    unfold bestStep
    by_cases h0 : s.1 < 0
    · simp [h0, h]
    · have := hs s (by simp) (by omega)
      simp only [h0, if_false, better]
      split <;> omega

theorem DF_hi {W : Wt} (hW : W.valid = true) {x y : List UInt8} : ∀ (n i j : Nat), i ≤ x.length → j ≤ y.length → DF W x y n i j ≤ 1000 * (rem x y i j : Int)
  | 0, i, j, _, _ => by unfold DF; omega
  | n + 1, i, j, hi, hj => by
    unfold DF
    have : best (DF W x y n) i j (W.steps x y i j) ≤ 1000 * (rem x y i j : Int) := by
      refine best_hi _ (by omega) fun s hs h0 => ?_
      have hf := (steps_fit hW hi hj s hs).resolve_left (by omega)
      obtain ⟨f1, f2, f3, f4, f5, f6⟩ := hf
      have := DF_hi hW (x := x) (y := y) n (i + s.2.1.toNat) (j + s.2.2.toNat) (by omega) (by omega)
      have e : (rem x y (i + s.2.1.toNat) (j + s.2.2.toNat) : Int) + 1 ≤ (rem x y i j : Int) := by unfold rem; omega
      omega
    omega

theorem isDist {W : Wt} (hW : W.valid = true) {x y : List UInt8} (hx : x.length ≤ 120) (hy : y.length ≤ 120) : IsDist W x y (D W x y) where
  rec_ i j T hi hj hT := by
    unfold D
    rw [DF]
    congr 1
    refine best_congr _ fun s hs h0 => ?_
    have hf := (steps_fit hW hi hj s hs).resolve_left (by omega)
    obtain ⟨f1, f2, f3, f4, f5, f6⟩ := hf
    rw [hT _ _ (by omega) (by omega) (by omega) (by omega) (by omega)]
    exact DF_stable hW _ _ _ _ (by omega) (by omega) (by unfold rem; omega) (by unfold rem; omega)
  lo i j := by unfold D; rw [DF]; omega
  hi i j hi hj := by
    have := DF_hi hW (rem x y i j + 1) i j hi hj
    unfold D
    have : (rem x y i j : Int) ≤ 240 := by unfold rem; omega
    omega
end Wt

def ok3 (W : Wt) (x y : List UInt8) : Bool := W.valid && okText x && okText y
theorem okText_len {l : List UInt8} (h : okText l = true) : l.length ≤ 120 := by
  simp only [okText, Bool.and_eq_true, decide_eq_true_eq] at h; exact h.2
def dist (W : Wt) (x y : List UInt8) : Int := if ok3 W x y then W.D x y 0 0 else 0
def errn (b : Bool) : Int := if b then 0 else 1
end Go.Proofs.Ytnpdhbagfkilkaa

/- Walks: edit.Distance. -/
set_option linter.unusedVariables false
set_option linter.unusedSimpArgs false
namespace Go.Proofs.Ytnpdhbagfkilkaa
open Go.RowKit

def wCells (W : Wt) (A : Option Addr) (n c : Nat) : Array Value := #[.int .i64 W.ins, .int .i64 W.del, .int .i64 W.chg, .int .i64 W.swp, .slice A n c]
/-- the weights' box, the first block that the call made -/
structure Box (wc w : World) (W : Wt) (A : Option Addr) (n c : Nat) : Prop where
  blk : Blk wc w.heap.size 24 (wCells W A n c)
  bel : Below w.heap.size w wc
theorem Box.start (w : World) (W : Wt) (A : Option Addr) (n c : Nat) : Box (w.alloc (.cells #[.int .i64 W.ins, .int .i64 W.del, .int .i64 W.chg, .int .i64 W.swp, .slice A n c] 24)) w W A n c :=
  ⟨Blk.new _ _ _, (Below.refl _ _).alloc (Nat.le_refl _) _⟩
theorem Box.next {wc w w' : World} {W : Wt} {A : Option Addr} {n c : Nat} (h : Box wc w W A n c) (hb : Below wc.heap.size wc w') : Box w' w W A n c :=
  ⟨h.blk.below hb h.blk.lt, h.bel.trans (hb.mono h.bel.size)⟩
theorem Box.facts {wc w : World} {W : Wt} {A : Option Addr} {n c : Nat} (h : Box wc w W A n c) :
    wc.cell? ⟨w.heap.size, 0, none⟩ = some (.int .i64 W.ins) ∧ wc.cell? ⟨w.heap.size, 1, none⟩ = some (.int .i64 W.del) ∧ wc.cell? ⟨w.heap.size, 2, none⟩ = some (.int .i64 W.chg) ∧ wc.cell? ⟨w.heap.size, 3, none⟩ = some (.int .i64 W.swp) ∧ wc.cell? ⟨w.heap.size, 4, none⟩ = some (.slice A n c) :=
  ⟨h.blk.cell 0, h.blk.cell 1, h.blk.cell 2, h.blk.cell 3, h.blk.cell 4⟩
theorem OpenRel.ed {wr w : World} {W : Wt} {A : Option Addr} {n c : Nat} {x y : ByteArray} (h : OpenRel wr w W A n c x y n) (hn : W.near.length = n) : Ed wr (w.heap.size + 2) (w.heap.size + 1) W A n c x y :=
  ⟨h.blk, by have := h.map; rwa [List.take_of_length_le (by omega)] at this⟩
theorem wval_eq (W : Wt) (A : Option Addr) (n c : Nat) : wval W A n c = .agg #[.int .i64 W.ins, .int .i64 W.del, .int .i64 W.chg, .int .i64 W.swp, .slice A n c] := rfl

theorem ok3_f1 {W : Wt} {x y : List UInt8} (h : W.valid = false) : dist W x y = 0 ∧ errn (ok3 W x y) = 1 := by simp [dist, ok3, errn, h]
theorem ok3_f2 {W : Wt} {x y : List UInt8} (h : okText x = false) : dist W x y = 0 ∧ errn (ok3 W x y) = 1 := by simp [dist, ok3, errn, h]
theorem ok3_f3 {W : Wt} {x y : List UInt8} (h : okText y = false) : dist W x y = 0 ∧ errn (ok3 W x y) = 1 := by simp [dist, ok3, errn, h]
theorem ok3_t {W : Wt} {x y : List UInt8} (h1 : W.valid = true) (h2 : okText x = true) (h3 : okText y = true) : dist W x y = W.D x y 0 0 ∧ errn (ok3 W x y) = 0 := by simp [dist, ok3, errn, h1, h2, h3]
theorem ret_two {k j : IntKind} {a b c d : Int} (h1 : a = c) (h2 : b = d) : Ending.returned (.tuple #[.int k a, .int j b]) = .returned (.tuple #[.int k c, .int j d]) := by rw [h1, h2]

set_option maxHeartbeats 1000000 in
theorem distance_any (W : Wt) (A : Option Addr) (n c X : Nat) (x y : ByteArray) (w : World) (hN : Near w X A n W.near) (hX : X ≤ w.heap.size) (hn : n ≤ 140737488355328) (hx : x.size ≤ maxLen) (hy : y.size ≤ maxLen) :
    Calls Try.prog 12 #[wval W A n c, .string x, .string y] w fun e w' => e = .returned (.tuple #[.int .i64 (dist W x.data.toList y.data.toList), .int .i64 (errn (ok3 W x.data.toList y.data.toList))]) ∧ Below w.heap.size w w' := by
  have HN := hide hN
  have HB := hide (Box.start w W A n c)
  clear hN
  cases hv : W.valid
  · have HF := hide (ok3_f1 (W := W) (x := x.data.toList) (y := y.data.toList) hv)
    go_enter Try.func12, Try.ntmps12
    unfold wval
    go_wp2_with (go_at_call 20; rw [← wval_eq]; refine (valid_try W A n c X _ (by exact HN.out.below HB.out.bel hX) (by simp; omega) hn).mono ?_; rintro e w1 ⟨rfl, hb⟩; have HT := hide (HB.out.next hb); clear HB hb; have HB := HT; clear HT)
    go_ret2
    exact ⟨ret_two HF.out.1.symm HF.out.2.symm, HB.out.bel⟩
  cases hxt : okText x.data.toList
  · have HF := hide (ok3_f2 (W := W) (x := x.data.toList) (y := y.data.toList) hxt)
    go_enter Try.func12, Try.ntmps12
    unfold wval
    go_wp2_with (first
      | (go_at_call 20; rw [← wval_eq]; refine (valid_try W A n c X _ (by exact HN.out.below HB.out.bel hX) (by simp; omega) hn).mono ?_; rintro e w1 ⟨rfl, hb⟩; have HT := hide (HB.out.next hb); clear HB hb; have HB := HT; clear HT)
      | (go_at_call 26; refine (isText_any _ _ (by assumption)).mono ?_; rintro e w1 ⟨rfl, hb⟩; have HT := hide (HB.out.next hb); clear HB hb; have HB := HT; clear HT))
    go_ret2
    exact ⟨ret_two HF.out.1.symm HF.out.2.symm, HB.out.bel⟩
  cases hyt : okText y.data.toList
  · have HF := hide (ok3_f3 (W := W) (x := x.data.toList) (y := y.data.toList) hyt)
    go_enter Try.func12, Try.ntmps12
    unfold wval
    go_wp2_with (first
      | (go_at_call 20; rw [← wval_eq]; refine (valid_try W A n c X _ (by exact HN.out.below HB.out.bel hX) (by simp; omega) hn).mono ?_; rintro e w1 ⟨rfl, hb⟩; have HT := hide (HB.out.next hb); clear HB hb; have HB := HT; clear HT)
      | (go_at_call 26; refine (isText_any _ _ (by assumption)).mono ?_; rintro e w1 ⟨rfl, hb⟩; have HT := hide (HB.out.next hb); clear HB hb; have HB := HT; clear HT))
    go_ret2
    exact ⟨ret_two HF.out.1.symm HF.out.2.symm, HB.out.bel⟩
  have HF := hide (ok3_t (W := W) (x := x.data.toList) (y := y.data.toList) hv hxt hyt)
  have HV := hide hv
  have hx120 : x.size ≤ 120 := by simpa using okText_len hxt
  have hy120 : y.size ≤ 120 := by simpa using okText_len hyt
  have HD := hide (Wt.isDist hv (okText_len hxt) (okText_len hyt))
  go_enter Try.func12, Try.ntmps12
  unfold wval
  go_wp2_with (first
    | (go_at_call 20; rw [← wval_eq]; refine (valid_try W A n c X _ (by exact HN.out.below HB.out.bel hX) (by simp; omega) hn).mono ?_; rintro e w1 ⟨rfl, hb⟩; have HT := hide (HB.out.next hb); clear HB hb; have HB := HT; clear HT)
    | (go_at_call 26; refine (isText_any _ _ (by assumption)).mono ?_; rintro e w1 ⟨rfl, hb⟩; have HT := hide (HB.out.next hb); clear HB hb; have HB := HT; clear HT; obtain ⟨d0, d1, d2, d3, d4⟩ := HB.out.facts)
    | (go_at_call 27; rw [← wval_eq]; refine (open_any W HV.out x y A n c X _ (by exact HN.out.below HB.out.bel hX) (by have := HB.out.bel.size; omega)).mono ?_; rintro e w4 ⟨rfl, ho⟩; have HO := hide ho; clear ho)
    | (go_at_call 28; refine (table_any W HV.out x y A n c _ _ _ (HO.out.ed HN.out.1) hx120 hy120 _ HD.out).mono ?_; rintro e w5 ⟨rfl, hf⟩; have g1 := hf.cells (i := 0) (j := 0) (by omega) (by omega) (by omega); obtain ⟨g1, g2⟩ := g1; simp only [Nat.add_zero] at g1 g2; have HBB := hide ((HB.out.bel.trans (HO.out.bel.mono HB.out.bel.size)).trans (hf.bel.mono (Nat.le_trans HB.out.bel.size HO.out.bel.size))); clear hf))
  go_ret2
  exact ⟨ret_two HF.out.1.symm HF.out.2.symm, HBB.out⟩
end Go.Proofs.Ytnpdhbagfkilkaa

/- The reference of layer 18: weight, Valid, change. -/
set_option linter.unusedVariables false
set_option linter.unusedSimpArgs false
namespace Go.Proofs.Ytnpdhbagfkilkaa
open Go.RowKit

theorem below_one8 (w : World) (o : Obj) : Below w.heap.size w (w.alloc o) := (Below.refl _ _).alloc (Nat.le_refl _) o
theorem ret_bool8 {a b : Bool} (h : a = b) : Ending.returned (.bool a) = .returned (.bool b) := by rw [h]
theorem rweight_any (n : Int) (w : World) : Calls Try.prog 36 #[.int .i64 n] w fun e w' => e = .returned (.bool (Wt.numOk n)) ∧ w' = w := by
  by_cases h0 : 0 ≤ n
  · have e1 : decide ((0 : Int) ≤ n) = true := decide_eq_true h0
    by_cases h1 : n ≤ 1000
    · have e2 : decide (n ≤ (1000 : Int)) = true := decide_eq_true h1
      have HF : Hid (Wt.numOk n = true) := by show _ = _; unfold Wt.numOk; rw [e1, e2]; rfl
      clear h0 h1
      go_enter Try.func36, Try.ntmps36
      go_wp2_with fail
      go_ret
      exact ⟨ret_bool8 HF.out.symm, rfl⟩
    · have e2 : decide (n ≤ (1000 : Int)) = false := decide_eq_false h1
      have HF : Hid (Wt.numOk n = false) := by show _ = _; unfold Wt.numOk; rw [e1, e2]; rfl
      clear h0 h1
      go_enter Try.func36, Try.ntmps36
      go_wp2_with fail
      go_ret
      exact ⟨ret_bool8 HF.out.symm, rfl⟩
  · have e1 : decide ((0 : Int) ≤ n) = false := decide_eq_false h0
    have HF : Hid (Wt.numOk n = false) := by show _ = _; unfold Wt.numOk; rw [e1]; rfl
    clear h0
    go_enter Try.func36, Try.ntmps36
    go_wp2_with fail
    go_ret
    exact ⟨ret_bool8 HF.out.symm, rfl⟩
/-- the first k of the near ones are well -/
structure NearK (W : Wt) (k : Nat) : Prop where
  ok : ∀ i (h : i < W.near.length), i < k → W.nearOk W.near[i] = true
  ne : ∀ i j (h : i < W.near.length) (h' : j < W.near.length), j < i → i < k → Wt.pr W.near[j] ≠ Wt.pr W.near[i]
theorem NearK.zero (W : Wt) : NearK W 0 := ⟨fun i _ h => absurd h (Nat.not_lt_zero _), fun i j _ _ _ h => absurd h (Nat.not_lt_zero _)⟩
theorem NearK.succ {W : Wt} {k : Nat} (h : NearK W k) (hk : k < W.near.length) (h1 : W.nearOk W.near[k] = true) (h2 : ∀ j (h' : j < W.near.length), j < k → Wt.pr W.near[j] ≠ Wt.pr W.near[k]) : NearK W (k + 1) := by
  refine ⟨fun i hi hik => ?_, fun i j hi hj hji hik => ?_⟩
  · by_cases e : i = k
    · subst e; exact h1
    · exact h.ok i hi (by omega)
  · by_cases e : i = k
    · subst e; exact h2 j hj hji
    · exact h.ne i j hi hj hji (by omega)
theorem NearK.valid {W : Wt} (h : NearK W W.near.length) (hn : ∀ j, j < 4 → 0 ≤ W.num j ∧ W.num j ≤ 1000) (hl : W.near.length ≤ 200) : W.valid = true := by
  rw [Wt.good_all hn (fun n hn => by
    obtain ⟨i, hi, rfl⟩ := List.getElem_of_mem hn
    exact h.ok i hi hi) (by
    rw [List.pairwise_iff_getElem]
    intro i j hi hj hij
    rw [List.length_map] at hi hj
    simp only [List.getElem_map]
    exact h.ne j i hj hi hij hj)]
  exact decide_eq_true hl
theorem bad_len {W : Wt} (h : 200 < W.near.length) : W.valid = false := by
  rw [← Bool.not_eq_true]
  intro hv
  have := Wt.valid_len hv
  omega
theorem num_of {W : Wt} (h0 : Wt.numOk W.ins = true) (h1 : Wt.numOk W.del = true) (h2 : Wt.numOk W.chg = true) (h3 : Wt.numOk W.swp = true) : ∀ j, j < 4 → 0 ≤ W.num j ∧ W.num j ≤ 1000 := by
  simp only [Wt.numOk, Bool.and_eq_true, decide_eq_true_eq] at h0 h1 h2 h3
  intro j hj
  match j, hj with
  | 0, _ | 1, _ | 2, _ | 3, _ => simp only [Wt.num]; omega
theorem bad_numB {W : Wt} (h : Wt.numOk W.ins = false ∨ Wt.numOk W.del = false ∨ Wt.numOk W.chg = false ∨ Wt.numOk W.swp = false) : W.valid = false := by
  unfold Wt.valid
  rcases h with h | h | h | h <;> rw [h] <;> simp
theorem near_five {W : Wt} {n1 n2 n3 : Int} : W.nearOk (n1, n2, n3) = (decide (32 ≤ n1) && decide (n2 ≤ 126) && decide (n1 < n2) && decide (0 ≤ n3) && decide (n3 ≤ W.chg)) := rfl
set_option maxRecDepth 100000 in
set_option maxHeartbeats 8000000 in
theorem rvalid8_any (W : Wt) (A : Option Addr) (n c X : Nat) (w : World) (hN : Near w X A n W.near) (hX0 : X ≤ w.heap.size) (hn : n ≤ 140737488355328) :
    Calls Try.prog 21 #[wval W A n c] w fun e w' => e = .returned (.bool W.valid) ∧ Below w.heap.size w w' := by
  have HN := hide hN
  have hlen : W.near.length = n := hN.1
  have HLN := hide hlen
  have HB := hide (Box.start w W A n c)
  clear hN
  go_enter Try.func21, Try.ntmps21
  unfold wval
  go_upto_region 1 with fail
  generalize w.alloc (.cells #[.int .i64 W.ins, .int .i64 W.del, .int .i64 W.chg, .int .i64 W.swp, .slice A n c] 24) = w1 at *
  obtain ⟨d0, d1, d2, d3, d4⟩ := HB.out.facts
  have CW0 := rweight_any W.ins w1
  have CW1 := rweight_any W.del w1
  have CW2 := rweight_any W.chg w1
  have CW3 := rweight_any W.swp w1
  cases hv0 : Wt.numOk W.ins with
  | false =>
    rw [hv0] at CW0
    have HF := hide (bad_numB (W := W) (.inl hv0))
    clear hv0
    go_wp2_with (first | ((with_reducible refine (CW0).mono ?_); rintro e w' ⟨rfl, hw⟩; have hw := hw.symm; subst hw) | ((with_reducible refine (CW1).mono ?_); rintro e w' ⟨rfl, hw⟩; have hw := hw.symm; subst hw) | ((with_reducible refine (CW2).mono ?_); rintro e w' ⟨rfl, hw⟩; have hw := hw.symm; subst hw) | ((with_reducible refine (CW3).mono ?_); rintro e w' ⟨rfl, hw⟩; have hw := hw.symm; subst hw))
    go_ret
    exact ⟨ret_bool8 HF.out.symm, HB.out.bel⟩
  | true =>
    rw [hv0] at CW0
    have HV0 := hide hv0
    clear hv0
    cases hv1 : Wt.numOk W.del with
    | false =>
      rw [hv1] at CW1
      have HF := hide (bad_numB (W := W) (.inr (.inl hv1)))
      clear hv1
      go_wp2_with (first | ((with_reducible refine (CW0).mono ?_); rintro e w' ⟨rfl, hw⟩; have hw := hw.symm; subst hw) | ((with_reducible refine (CW1).mono ?_); rintro e w' ⟨rfl, hw⟩; have hw := hw.symm; subst hw) | ((with_reducible refine (CW2).mono ?_); rintro e w' ⟨rfl, hw⟩; have hw := hw.symm; subst hw) | ((with_reducible refine (CW3).mono ?_); rintro e w' ⟨rfl, hw⟩; have hw := hw.symm; subst hw))
      go_ret
      exact ⟨ret_bool8 HF.out.symm, HB.out.bel⟩
    | true =>
      rw [hv1] at CW1
      have HV1 := hide hv1
      clear hv1
      cases hv2 : Wt.numOk W.chg with
      | false =>
        rw [hv2] at CW2
        have HF := hide (bad_numB (W := W) (.inr (.inr (.inl hv2))))
        clear hv2
        go_wp2_with (first | ((with_reducible refine (CW0).mono ?_); rintro e w' ⟨rfl, hw⟩; have hw := hw.symm; subst hw) | ((with_reducible refine (CW1).mono ?_); rintro e w' ⟨rfl, hw⟩; have hw := hw.symm; subst hw) | ((with_reducible refine (CW2).mono ?_); rintro e w' ⟨rfl, hw⟩; have hw := hw.symm; subst hw) | ((with_reducible refine (CW3).mono ?_); rintro e w' ⟨rfl, hw⟩; have hw := hw.symm; subst hw))
        go_ret
        exact ⟨ret_bool8 HF.out.symm, HB.out.bel⟩
      | true =>
        rw [hv2] at CW2
        have HV2 := hide hv2
        clear hv2
        cases hv3 : Wt.numOk W.swp with
        | false =>
          rw [hv3] at CW3
          have HF := hide (bad_numB (W := W) (.inr (.inr (.inr (hv3)))))
          clear hv3
          go_wp2_with (first | ((with_reducible refine (CW0).mono ?_); rintro e w' ⟨rfl, hw⟩; have hw := hw.symm; subst hw) | ((with_reducible refine (CW1).mono ?_); rintro e w' ⟨rfl, hw⟩; have hw := hw.symm; subst hw) | ((with_reducible refine (CW2).mono ?_); rintro e w' ⟨rfl, hw⟩; have hw := hw.symm; subst hw) | ((with_reducible refine (CW3).mono ?_); rintro e w' ⟨rfl, hw⟩; have hw := hw.symm; subst hw))
          go_ret
          exact ⟨ret_bool8 HF.out.symm, HB.out.bel⟩
        | true =>
          rw [hv3] at CW3
          have HV3 := hide hv3
          clear hv3
          by_cases h200 : 200 < n
          · have e1 : decide ((200 : Int) < (n : Int)) = true := decide_eq_true (by omega)
            have e1' : decide (200 < n) = true := decide_eq_true h200
            have HF := hide (bad_len (W := W) (by omega))
            clear h200
            go_wp2_with (first | ((with_reducible refine (CW0).mono ?_); rintro e w' ⟨rfl, hw⟩; have hw := hw.symm; subst hw) | ((with_reducible refine (CW1).mono ?_); rintro e w' ⟨rfl, hw⟩; have hw := hw.symm; subst hw) | ((with_reducible refine (CW2).mono ?_); rintro e w' ⟨rfl, hw⟩; have hw := hw.symm; subst hw) | ((with_reducible refine (CW3).mono ?_); rintro e w' ⟨rfl, hw⟩; have hw := hw.symm; subst hw))
            go_ret
            exact ⟨ret_bool8 HF.out.symm, HB.out.bel⟩
          · have e1 : decide ((200 : Int) < (n : Int)) = false := decide_eq_false (by omega)
            have e1' : decide (200 < n) = false := decide_eq_false h200
            go_wp2_with (first | ((with_reducible refine (CW0).mono ?_); rintro e w' ⟨rfl, hw⟩; have hw := hw.symm; subst hw) | ((with_reducible refine (CW1).mono ?_); rintro e w' ⟨rfl, hw⟩; have hw := hw.symm; subst hw) | ((with_reducible refine (CW2).mono ?_); rintro e w' ⟨rfl, hw⟩; have hw := hw.symm; subst hw) | ((with_reducible refine (CW3).mono ?_); rintro e w' ⟨rfl, hw⟩; have hw := hw.symm; subst hw))
            clear e1 e1' CW0 CW1 CW2 CW3 d0 d1 d2 d3 d4
            go_loopw [3] (fun i wr => ∃ k : Nat, i = .int .i64 (k : Int) ∧ (k ≤ n ∧ NearK W k) ∧ Box wr w W A n c) (fun i _ => n - (intOf i).toNat)
            case atStart => exact ⟨0, rfl, ⟨Nat.zero_le _, NearK.zero W⟩, HB.out⟩
            case round =>
              obtain ⟨k, rfl, ⟨hk, hK⟩, hB⟩ := hrel
              have HBk := hide hB
              have HK := hide hK
              obtain ⟨d0, d1, d2, d3, d4⟩ := hB.facts
              clear hB hK HB
              by_cases hkn : k < n
              · have e1 : decide ((k : Int) < (n : Int)) = true := decide_eq_true (by omega)
                have e1' : decide (k < n) = true := decide_eq_true hkn
                obtain ⟨ad, n1, n2, n3, hl, ea, hb, hpr, c0, c1, c2⟩ := (HN.out.below HBk.out.bel hX0).at_ hkn
                have d4' : wr.cell? ⟨w.heap.size, 4, none⟩ = some (.slice (some ad) n c) := by rw [← ea]; exact d4
                clear d4
                have d4 := d4'
                clear d4'
                have k0 : (0 : Int) ≤ (k : Int) := by omega
                have k1 : (k : Int) < (n : Int) := by omega
                have HBx := hide (HBk.out.next (below_one8 wr (.cells #[.int .i64 n1, .int .i64 n2, .int .i64 n3] 63)))
                have HX := hide (Blk.new wr 63 #[.int .i64 n1, .int .i64 n2, .int .i64 n3])
                go_upto_region 7 with fail
                clear d0 d1 d2 d3 d4 c0 c1 c2 hb e1 e1' HBk
                generalize wr.alloc (.cells #[.int .i64 n1, .int .i64 n2, .int .i64 n3] 63) = w5 at *
                generalize wr.heap.size = bx at *
                have x0 : w5.cell? ⟨bx, 0, none⟩ = some (.int .i64 n1) := HX.out.cell 0
                have x1 : w5.cell? ⟨bx, 1, none⟩ = some (.int .i64 n2) := HX.out.cell 1
                have x2 : w5.cell? ⟨bx, 2, none⟩ = some (.int .i64 n3) := HX.out.cell 2
                obtain ⟨d0, d1, d2, d3, d4⟩ := HBx.out.facts
                by_cases t0 : 32 ≤ n1
                · have u0x : decide (n1 < (32 : Int)) = false := decide_eq_false (by omega)
                  by_cases t1 : n2 ≤ 126
                  · have u1x : decide ((126 : Int) < n2) = false := decide_eq_false (by omega)
                    by_cases t2 : n1 < n2
                    · have u2x : decide (n2 ≤ n1) = false := decide_eq_false (by omega)
                      by_cases t3 : 0 ≤ n3
                      · have u3x : decide (n3 < (0 : Int)) = false := decide_eq_false (by omega)
                        by_cases t4 : n3 ≤ W.chg
                        · have u4x : decide (W.chg < n3) = false := decide_eq_false (by omega)
                          have HOK : Hid (W.nearOk W.near[k] = true) := by show _ = _; rw [hpr, near_five, decide_eq_true t0, decide_eq_true t1, decide_eq_true t2, decide_eq_true t3, decide_eq_true t4]; rfl
                          clear t0 t1 t2 t3 t4
                          go_upto_region 9 with fail
                          clear u0x u1x u2x u3x u4x x0 x1 x2 d0 d1 d2 d3 d4
                          go_wp2_with fail
                          go_loopw [5] (fun i wr => ∃ m : Nat, i = .int .i64 (m : Int) ∧ (m ≤ k ∧ ∀ j (h' : j < W.near.length), j < m → Wt.pr W.near[j] ≠ Wt.pr W.near[k]) ∧ Box wr w W A n c ∧ Blk wr bx 63 #[.int .i64 n1, .int .i64 n2, .int .i64 n3]) (fun i _ => k - (intOf i).toNat)
                          case atStart => exact ⟨0, rfl, ⟨Nat.zero_le _, fun j _ h => absurd h (Nat.not_lt_zero _)⟩, HBx.out, HX.out⟩
                          case round =>
                            obtain ⟨m, rfl, ⟨hm, hne⟩, hB, hX⟩ := hrel
                            have HBy := hide hB
                            have HXy := hide hX
                            have HNE := hide hne
                            clear hB hX hne
                            by_cases hmk : m < k
                            · have e1 : decide ((m : Int) < (k : Int)) = true := decide_eq_true (by omega)
                              have e1' : decide (m < k) = true := decide_eq_true hmk
                              obtain ⟨ad2, m1, m2, m3, hl2, ea2, hb2, hpr2, c0, c1, c2⟩ := (HN.out.below HBy.out.bel hX0).at_ (k := m) (by omega)
                              rw [ea] at ea2
                              injection ea2 with ea2
                              subst ea2
                              have x0 : wr.cell? ⟨bx, 0, none⟩ = some (.int .i64 n1) := HXy.out.cell 0
                              have x1 : wr.cell? ⟨bx, 1, none⟩ = some (.int .i64 n2) := HXy.out.cell 1
                              have d4 : wr.cell? ⟨w.heap.size, 4, none⟩ = some (.slice (some ad) n c) := by rw [← ea]; exact HBy.out.facts.2.2.2.2
                              have k0 : (0 : Int) ≤ (m : Int) := by omega
                              have k1 : (m : Int) < (n : Int) := by omega
                              have HP2 := hide hpr2
                              clear hb2 hpr2
                              by_cases e2 : m1 = n1
                              · have g1 : (m1 == n1) = true := by rw [e2]; simp
                                by_cases e3 : m2 = n2
                                · have g2 : (m2 == n2) = true := by rw [e3]; simp
                                  have HF := hide (Wt.bad_seen (W := W) hl (by
                                    refine List.mem_map.2 ⟨W.near[m], List.mem_take_iff_getElem.2 ⟨m, by omega, rfl⟩, ?_⟩
                                    rw [HP2.out, hpr]; unfold Wt.pr; rw [e2, e3]))
                                  clear e2 e3
                                  go_wp2_with fail
                                  go_quiet (fail)
                                  go_wp2_with fail
                                  go_ret
                                  exact ⟨ret_bool8 HF.out.symm, below_drewN HBy.out.bel _⟩
                                · have g2 : (m2 == n2) = false := by rw [beq_eq_false_iff_ne]; exact e3
                                  have HQ : Hid (∀ j (h' : j < W.near.length), j < m + 1 → Wt.pr W.near[j] ≠ Wt.pr W.near[k]) := fun j hj hjm => by
                                    by_cases e : j = m
                                    · subst e; rw [HP2.out, hpr]; unfold Wt.pr; intro h; injection h with _ h; exact e3 h
                                    · exact HNE.out j hj (by omega)
                                  clear e2 e3
                                  go_wp2_with fail
                                  go_quiet (fail)
                                  go_wp2_with fail
                                  go_roundw
                                  case rel => exact ⟨m + 1, by go_num, ⟨by omega, HQ.out⟩, HBy.out.next (below_drewN (Below.refl _ _) _), HXy.out.drewN _⟩
                                  case measure => simp [intOf]; omega
                              · have g1 : (m1 == n1) = false := by rw [beq_eq_false_iff_ne]; exact e2
                                have HQ : Hid (∀ j (h' : j < W.near.length), j < m + 1 → Wt.pr W.near[j] ≠ Wt.pr W.near[k]) := fun j hj hjm => by
                                  by_cases e : j = m
                                  · subst e; rw [HP2.out, hpr]; unfold Wt.pr; intro h; injection h with h _; exact e2 h
                                  · exact HNE.out j hj (by omega)
                                clear e2
                                go_wp2_with fail
                                go_quiet (fail)
                                go_wp2_with fail
                                go_roundw
                                case rel => exact ⟨m + 1, by go_num, ⟨by omega, HQ.out⟩, HBy.out.next (below_drewN (Below.refl _ _) _), HXy.out.drewN _⟩
                                case measure => simp [intOf]; omega
                            · obtain rfl : m = k := by omega
                              have e1 : decide ((m : Int) < (m : Int)) = false := by simp
                              have e1' : decide (m < m) = false := by simp
                              have HK2 := hide (HK.out.succ hl HOK.out (fun j hj hjm => HNE.out j hj hjm))
                              go_wp2_with fail
                              go_roundw
                              case rel => exact ⟨m + 1, by go_num, ⟨by omega, HK2.out⟩, HBy.out⟩
                              case measure => simp [intOf]; omega
                        · have u4x : decide (W.chg < n3) = true := decide_eq_true (by omega)
                          have HF := hide (Wt.bad_near (W := W) hl (by rw [hpr, near_five, decide_eq_false t4]; simp))
                          clear t0 t1 t2 t3 t4
                          go_wp2_with fail
                          go_ret
                          exact ⟨ret_bool8 HF.out.symm, HBx.out.bel⟩
                      · have u3x : decide (n3 < (0 : Int)) = true := decide_eq_true (by omega)
                        have HF := hide (Wt.bad_near (W := W) hl (by rw [hpr, near_five, decide_eq_false t3]; simp))
                        clear t0 t1 t2 t3
                        go_wp2_with fail
                        go_ret
                        exact ⟨ret_bool8 HF.out.symm, HBx.out.bel⟩
                    · have u2x : decide (n2 ≤ n1) = true := decide_eq_true (by omega)
                      have HF := hide (Wt.bad_near (W := W) hl (by rw [hpr, near_five, decide_eq_false t2]; simp))
                      clear t0 t1 t2
                      go_wp2_with fail
                      go_ret
                      exact ⟨ret_bool8 HF.out.symm, HBx.out.bel⟩
                  · have u1x : decide ((126 : Int) < n2) = true := decide_eq_true (by omega)
                    have HF := hide (Wt.bad_near (W := W) hl (by rw [hpr, near_five, decide_eq_false t1]; simp))
                    clear t0 t1
                    go_wp2_with fail
                    go_ret
                    exact ⟨ret_bool8 HF.out.symm, HBx.out.bel⟩
                · have u0x : decide (n1 < (32 : Int)) = true := decide_eq_true (by omega)
                  have HF := hide (Wt.bad_near (W := W) hl (by rw [hpr, near_five, decide_eq_false t0]; simp))
                  clear t0
                  go_wp2_with fail
                  go_ret
                  exact ⟨ret_bool8 HF.out.symm, HBx.out.bel⟩
              · obtain rfl : k = n := by omega
                have e1 : decide ((k : Int) < (k : Int)) = false := by simp
                have e1' : decide (k < k) = false := by simp
                have HF : Hid (W.valid = true) := NearK.valid (by rw [HLN.out]; exact HK.out) (num_of HV0.out HV1.out HV2.out HV3.out) (by rw [HLN.out]; omega)
                go_wp2_with fail
                go_ret
                exact ⟨ret_bool8 HF.out.symm, HBk.out.bel⟩
def Wt.fitsN8 (a b : Int) (n : Int × Int × Int) : Bool := (n.1 == a && n.2.1 == b) || (n.1 == b && n.2.1 == a)
theorem look_none {l : List (Int × Int × Int)} {a b : Int} (h : ∀ i (hi : i < l.length), Wt.fitsN8 a b l[i] = false) : Wt.look l a b = none := by
  unfold Wt.look
  rw [List.find?_eq_none.2]
  · rfl
  · intro x hx
    obtain ⟨i, hi, rfl⟩ := List.getElem_of_mem hx
    have := h i hi
    unfold Wt.fitsN8 at this
    rw [this]; decide
theorem look_some {l : List (Int × Int × Int)} {a b : Int} {k : Nat} (hk : k < l.length) (h : ∀ i (hi : i < l.length), i < k → Wt.fitsN8 a b l[i] = false) (h1 : Wt.fitsN8 a b l[k] = true) : Wt.look l a b = some (l[k]).2.2 := by
  unfold Wt.look
  have h2 : l.find? (fun n => (n.1 == a && n.2.1 == b) || (n.1 == b && n.2.1 == a)) = some l[k] := by
    rw [List.find?_eq_some_iff_getElem]
    refine ⟨h1, k, hk, rfl, fun j hj => ?_⟩
    have := h j (by omega) hj
    unfold Wt.fitsN8 at this
    rw [this]; rfl
  rw [h2]; rfl
set_option maxRecDepth 100000 in
set_option maxHeartbeats 8000000 in
theorem rchange_any (W : Wt) (A : Option Addr) (n c X : Nat) (a b : UInt8) (w : World) (hN : Near w X A n W.near) (hX0 : X ≤ w.heap.size) (hn : n ≤ 140737488355328) :
    Calls Try.prog 39 #[wval W A n c, .int .u8 (a.toNat : Int), .int .u8 (b.toNat : Int)] w fun e w' => e = .returned (.int .i64 ((Wt.look W.near (a.toNat : Int) (b.toNat : Int)).getD W.chg)) ∧ Below w.heap.size w w' := by
  have HN := hide hN
  have hlen : W.near.length = n := hN.1
  have HLN := hide hlen
  have HB := hide (Box.start w W A n c)
  have ha0 := a.toNat_lt
  have hb0 := b.toNat_lt
  clear hN
  go_enter Try.func39, Try.ntmps39
  unfold wval
  go_upto_region 1 with fail
  generalize w.alloc (.cells #[.int .i64 W.ins, .int .i64 W.del, .int .i64 W.chg, .int .i64 W.swp, .slice A n c] 24) = w1 at *
  go_wp2_with fail
  go_loopw [7] (fun i wr => ∃ k : Nat, i = .int .i64 (k : Int) ∧ (k ≤ n ∧ ∀ i (hi : i < W.near.length), i < k → Wt.fitsN8 (a.toNat : Int) (b.toNat : Int) W.near[i] = false) ∧ Box wr w W A n c) (fun i _ => n - (intOf i).toNat)
  case atStart => exact ⟨0, rfl, ⟨Nat.zero_le _, fun i _ h => absurd h (Nat.not_lt_zero _)⟩, HB.out⟩
  case round =>
    obtain ⟨k, rfl, ⟨hk, hK⟩, hB⟩ := hrel
    have HBk := hide hB
    have HK := hide hK
    obtain ⟨d0, d1, d2, d3, d4⟩ := hB.facts
    clear hB hK HB
    by_cases hkn : k < n
    · have e1 : decide ((k : Int) < (n : Int)) = true := decide_eq_true (by omega)
      have e1' : decide (k < n) = true := decide_eq_true hkn
      obtain ⟨ad, n1, n2, n3, hl, ea, hb, hpr, c0, c1, c2⟩ := (HN.out.below HBk.out.bel hX0).at_ hkn
      have d4' : wr.cell? ⟨w.heap.size, 4, none⟩ = some (.slice (some ad) n c) := by rw [← ea]; exact d4
      clear d4
      have d4 := d4'
      clear d4'
      have k0 : (0 : Int) ≤ (k : Int) := by omega
      have k1 : (k : Int) < (n : Int) := by omega
      have HBx := hide (HBk.out.next (below_one8 wr (.cells #[.int .i64 n1, .int .i64 n2, .int .i64 n3] 63)))
      have HX := hide (Blk.new wr 63 #[.int .i64 n1, .int .i64 n2, .int .i64 n3])
      go_upto_region 5 with fail
      clear d0 d1 d2 d3 d4 c0 c1 c2 hb e1 e1' HBk
      generalize wr.alloc (.cells #[.int .i64 n1, .int .i64 n2, .int .i64 n3] 63) = w5 at *
      generalize wr.heap.size = bx at *
      have x0 : w5.cell? ⟨bx, 0, none⟩ = some (.int .i64 n1) := HX.out.cell 0
      have x1 : w5.cell? ⟨bx, 1, none⟩ = some (.int .i64 n2) := HX.out.cell 1
      have x2 : w5.cell? ⟨bx, 2, none⟩ = some (.int .i64 n3) := HX.out.cell 2
      have HFIT : Hid (Wt.fitsN8 (a.toNat : Int) (b.toNat : Int) W.near[k] = ((n1 == (a.toNat : Int) && n2 == (b.toNat : Int)) || (n1 == (b.toNat : Int) && n2 == (a.toNat : Int)))) := by show _ = _; rw [hpr]; rfl
      have HNX : Hid (Wt.fitsN8 (a.toNat : Int) (b.toNat : Int) W.near[k] = false → ∀ i (hi : i < W.near.length), i < k + 1 → Wt.fitsN8 (a.toNat : Int) (b.toNat : Int) W.near[i] = false) := fun h i hi hik => by
        by_cases e : i = k
        · subst e; exact h
        · exact HK.out i hi (by omega)
      have HYS : Hid (Wt.fitsN8 (a.toNat : Int) (b.toNat : Int) W.near[k] = true → (Wt.look W.near (a.toNat : Int) (b.toNat : Int)).getD W.chg = n3) := fun h => by
        rw [look_some hl (fun i hi hik => HK.out i hi hik) h, hpr]; rfl
      generalize Wt.fitsN8 (a.toNat : Int) (b.toNat : Int) W.near[k] = fit at *
      clear hpr
      obtain ⟨q1, h1⟩ : ∃ q, (n1 == (a.toNat : Int)) = q := ⟨_, rfl⟩
      obtain ⟨q2, h2⟩ : ∃ q, (n2 == (b.toNat : Int)) = q := ⟨_, rfl⟩
      obtain ⟨q3, h3⟩ : ∃ q, (n1 == (b.toNat : Int)) = q := ⟨_, rfl⟩
      obtain ⟨q4, h4⟩ : ∃ q, (n2 == (a.toNat : Int)) = q := ⟨_, rfl⟩
      rw [h1, h2, h3, h4] at HFIT
      cases q1 with
      | true =>
        cases q2 with
        | true =>
          have HFV : Hid (fit = true) := by show _ = _; rw [HFIT.out]; simp
          have HR := hide (HYS.out HFV.out)
          go_wp2_with fail
          go_ret
          exact ⟨by rw [HR.out]; rfl, HBx.out.bel⟩
        | false =>
          cases q3 with
          | true =>
            cases q4 with
            | true =>
              have HFV : Hid (fit = true) := by show _ = _; rw [HFIT.out]; simp
              have HR := hide (HYS.out HFV.out)
              go_wp2_with fail
              go_ret
              exact ⟨by rw [HR.out]; rfl, HBx.out.bel⟩
            | false =>
              have HFV : Hid (fit = false) := by show _ = _; rw [HFIT.out]; simp
              have HR := hide (HNX.out HFV.out)
              go_wp2_with fail
              go_roundw
              case rel => exact ⟨k + 1, by go_num, ⟨by omega, HR.out⟩, HBx.out⟩
              case measure => simp [intOf]; omega
          | false =>
            have HFV : Hid (fit = false) := by show _ = _; rw [HFIT.out]; simp
            have HR := hide (HNX.out HFV.out)
            go_wp2_with fail
            go_roundw
            case rel => exact ⟨k + 1, by go_num, ⟨by omega, HR.out⟩, HBx.out⟩
            case measure => simp [intOf]; omega
      | false =>
        cases q3 with
        | true =>
          cases q4 with
          | true =>
            have HFV : Hid (fit = true) := by show _ = _; rw [HFIT.out]; simp
            have HR := hide (HYS.out HFV.out)
            go_wp2_with fail
            go_ret
            exact ⟨by rw [HR.out]; rfl, HBx.out.bel⟩
          | false =>
            have HFV : Hid (fit = false) := by show _ = _; rw [HFIT.out]; simp
            have HR := hide (HNX.out HFV.out)
            go_wp2_with fail
            go_roundw
            case rel => exact ⟨k + 1, by go_num, ⟨by omega, HR.out⟩, HBx.out⟩
            case measure => simp [intOf]; omega
        | false =>
          have HFV : Hid (fit = false) := by show _ = _; rw [HFIT.out]; simp
          have HR := hide (HNX.out HFV.out)
          go_wp2_with fail
          go_roundw
          case rel => exact ⟨k + 1, by go_num, ⟨by omega, HR.out⟩, HBx.out⟩
          case measure => simp [intOf]; omega
    · obtain rfl : k = n := by omega
      have e1 : decide ((k : Int) < (k : Int)) = false := by simp
      have e1' : decide (k < k) = false := by simp
      have HF : Hid ((Wt.look W.near (a.toNat : Int) (b.toNat : Int)).getD W.chg = W.chg) := by show _ = _; rw [look_none (fun i hi => HK.out i hi (by rw [HLN.out] at hi; exact hi))]; rfl
      go_wp2_with fail
      go_ret
      exact ⟨by rw [HF.out]; rfl, HBk.out.bel⟩
end Go.Proofs.Ytnpdhbagfkilkaa

/- The plain side: distances are the least costs of ways to edit. -/
set_option linter.unusedVariables false
set_option linter.unusedSimpArgs false
namespace Go.Proofs.Ytnpdhbagfkilkaa
namespace Wt

/-! the best of some steps -/
theorem best_spec {T : Nat → Nat → Int} {i j : Nat} : ∀ {l : List (Int × Int × Int)} (b : Int), -1 ≤ b → (∀ s ∈ l, 0 ≤ s.1 → 0 ≤ s.1 + T (i + s.2.1.toNat) (j + s.2.2.toNat)) →
    (l.foldl (bestStep T i j) b = b ∨ ∃ s ∈ l, 0 ≤ s.1 ∧ l.foldl (bestStep T i j) b = s.1 + T (i + s.2.1.toNat) (j + s.2.2.toNat)) ∧
    (0 ≤ b → l.foldl (bestStep T i j) b ≤ b) ∧ (∀ s ∈ l, 0 ≤ s.1 → 0 ≤ l.foldl (bestStep T i j) b ∧ l.foldl (bestStep T i j) b ≤ s.1 + T (i + s.2.1.toNat) (j + s.2.2.toNat)) ∧ (0 ≤ b → 0 ≤ l.foldl (bestStep T i j) b)
  | [], b, _, _ => ⟨.inl rfl, fun _ => Int.le_refl _, by simp, fun h => h⟩
  | s :: l, b, hb, h => by
    simp only [List.foldl_cons]
    by_cases hs : s.1 < 0
    · have e : bestStep T i j b s = b := by simp [bestStep, hs]
      rw [e]
      obtain ⟨h1, h2, h3, h4⟩ := best_spec (T := T) (i := i) (j := j) (l := l) b hb fun s' hs' => h s' (by simp [hs'])
      refine ⟨?_, h2, ?_, h4⟩
      · rcases h1 with h1 | ⟨s', hs', h1⟩
        · exact .inl h1
        · exact .inr ⟨s', by simp [hs'], h1⟩
      · intro s' hs' h0
        rcases List.mem_cons.1 hs' with rfl | hs'
        · omega
        · exact h3 s' hs' h0
    · have hv := h s (by simp) (by omega)
      have hn : 0 ≤ bestStep T i j b s ∧ bestStep T i j b s ≤ s.1 + T (i + s.2.1.toNat) (j + s.2.2.toNat) ∧ (bestStep T i j b s = b ∨ bestStep T i j b s = s.1 + T (i + s.2.1.toNat) (j + s.2.2.toNat)) ∧ (0 ≤ b → bestStep T i j b s ≤ b) := by
        simp only [bestStep, hs, if_false, better]
        split <;> omega
      obtain ⟨n1, n2, n3, n4⟩ := hn
      obtain ⟨h1, h2, h3, h4⟩ := best_spec (T := T) (i := i) (j := j) (l := l) (bestStep T i j b s) (by omega) fun s' hs' => h s' (by simp [hs'])
      have h5 := h2 n1
      have h6 := h4 n1
      refine ⟨?_, fun hb0 => by have := n4 hb0; omega, ?_, fun _ => h6⟩
      · rcases h1 with h1 | ⟨s', hs', h1⟩
        · rcases n3 with n3 | n3
          · exact .inl (h1.trans n3)
          · exact .inr ⟨s, by simp, by omega, h1.trans n3⟩
        · exact .inr ⟨s', by simp [hs'], h1⟩
      · intro s' hs' h0
        rcases List.mem_cons.1 hs' with rfl | hs'
        · omega
        · exact h3 s' hs' h0

/-! ways to edit -/
def cc (W : Wt) (a b : UInt8) : Int := (look W.near (a.toNat : Int) (b.toNat : Int)).getD W.chg
inductive Al (W : Wt) : List UInt8 → List UInt8 → Int → Prop
  | nil : Al W [] [] 0
  | same (a : UInt8) {x y : List UInt8} {c : Int} : Al W x y c → Al W (a :: x) (a :: y) c
  | chg (a b : UInt8) {x y : List UInt8} {c : Int} : a ≠ b → Al W x y c → Al W (a :: x) (b :: y) (W.cc a b + c)
  | ins (b : UInt8) {x y : List UInt8} {c : Int} : Al W x y c → Al W x (b :: y) (W.ins + c)
  | del (a : UInt8) {x y : List UInt8} {c : Int} : Al W x y c → Al W (a :: x) y (W.del + c)
  | swp (a b : UInt8) {x y : List UInt8} {c : Int} : a ≠ b → Al W x y c → Al W (a :: b :: x) (b :: a :: y) (W.swp + c)

theorem at_eq {x : List UInt8} {i : Nat} (h : i < x.length) : at_ x i = (x[i].toNat : Int) := by simp [at_, h]
theorem at_inj {x y : List UInt8} {i j : Nat} (h : i < x.length) (h' : j < y.length) : at_ x i = at_ y j ↔ x[i] = y[j] := by
  rw [at_eq h, at_eq h']
  constructor
  · intro e; exact UInt8.toNat_inj.1 (by omega)
  · intro e; rw [e]

theorem D_rec {W : Wt} (hW : W.valid = true) {x y : List UInt8} (hx : x.length ≤ 120) (hy : y.length ≤ 120) {i j : Nat} (hi : i ≤ x.length) (hj : j ≤ y.length) :
    max (best (D W x y) i j (W.steps x y i j)) 0 = D W x y i j := (isDist hW hx hy).rec_ i j _ hi hj (fun _ _ _ _ _ _ _ => rfl)

theorem D_le {W : Wt} (hW : W.valid = true) {x y : List UInt8} (hx : x.length ≤ 120) (hy : y.length ≤ 120) {i j : Nat} (hi : i ≤ x.length) (hj : j ≤ y.length) {s : Int × Int × Int} (hs : s ∈ W.steps x y i j) (h0 : 0 ≤ s.1) :
    D W x y i j ≤ s.1 + D W x y (i + s.2.1.toNat) (j + s.2.2.toNat) := by
  have hlo := (isDist hW hx hy).lo
  obtain ⟨_, _, h3, _⟩ := best_spec (T := D W x y) (i := i) (j := j) (l := W.steps x y i j) (-1) (by omega) (fun s _ h => by have := hlo (i + s.2.1.toNat) (j + s.2.2.toNat); omega)
  obtain ⟨h4, h5⟩ := h3 s hs h0
  rw [← D_rec hW hx hy hi hj]
  unfold best
  omega

theorem D_some {W : Wt} (hW : W.valid = true) {x y : List UInt8} (hx : x.length ≤ 120) (hy : y.length ≤ 120) {i j : Nat} (hi : i ≤ x.length) (hj : j ≤ y.length) (hne : i < x.length ∨ j < y.length) :
    ∃ s ∈ W.steps x y i j, 0 ≤ s.1 ∧ D W x y i j = s.1 + D W x y (i + s.2.1.toNat) (j + s.2.2.toNat) := by
  have hlo := (isDist hW hx hy).lo
  have hn := valid_num hW
  obtain ⟨h1, _, h3, _⟩ := best_spec (T := D W x y) (i := i) (j := j) (l := W.steps x y i j) (-1) (by omega) (fun s _ h => by have := hlo (i + s.2.1.toNat) (j + s.2.2.toNat); omega)
  have hr := D_rec hW hx hy hi hj
  unfold best at hr
  have hex : ∃ s ∈ W.steps x y i j, 0 ≤ s.1 := by
    rcases hne with h | h
    · exact ⟨delete W x i, by simp [steps], by simp [delete, h]; omega⟩
    · exact ⟨insert W y j, by simp [steps], by simp [insert, h]; omega⟩
  obtain ⟨s0, hs0, h00⟩ := hex
  have := h3 s0 hs0 h00
  rcases h1 with h1 | ⟨s, hs, h0, h1⟩
  · omega
  · exact ⟨s, hs, h0, by omega⟩
theorem D_end {W : Wt} (hW : W.valid = true) {x y : List UInt8} (hx : x.length ≤ 120) (hy : y.length ≤ 120) : D W x y x.length y.length = 0 := by
  rw [← D_rec hW hx hy (Nat.le_refl _) (Nat.le_refl _)]
  have : W.steps x y x.length y.length = [no, no, no, no, no, no] := by
    simp [steps, same, change, insert, delete, swap, show ¬ x.length + 1 < x.length by omega]
  rw [this]
  rfl

theorem drop_cons {x : List UInt8} {i : Nat} (h : i < x.length) : x.drop i = x[i] :: x.drop (i + 1) := List.drop_eq_getElem_cons h
theorem of_drop {x r : List UInt8} {a : UInt8} {i : Nat} (h : x.drop i = a :: r) : ∃ h : i < x.length, x[i] = a ∧ x.drop (i + 1) = r := by
  have hi : i < x.length := by
    rcases Nat.lt_or_ge i x.length with h1 | h1
    · exact h1
    · rw [List.drop_eq_nil_of_le h1] at h; cases h
  rw [drop_cons hi] at h
  injection h with h1 h2
  exact ⟨hi, h1, h2⟩

/-- the table's numbers are costs of ways to edit what is left .. -/
theorem Al_D {W : Wt} (hW : W.valid = true) {x y : List UInt8} (hx : x.length ≤ 120) (hy : y.length ≤ 120) : ∀ (n i j : Nat), rem x y i j ≤ n → i ≤ x.length → j ≤ y.length → Al W (x.drop i) (y.drop j) (D W x y i j)
  | n, i, j, hn, hi, hj => by
    by_cases hne : i < x.length ∨ j < y.length
    · obtain ⟨s, hs, h0, e⟩ := D_some hW hx hy hi hj hne
      match n with
      | 0 => unfold rem at hn; omega
      | n + 1 =>
      have hf := (steps_fit hW hi hj s hs).resolve_left (by omega)
      obtain ⟨f1, f2, f3, f4, f5, f6⟩ := hf
      have ih := Al_D hW hx hy n (i + s.2.1.toNat) (j + s.2.2.toNat) (by unfold rem at *; omega) (by omega) (by omega)
      rw [e]
      simp only [steps, List.mem_cons, List.not_mem_nil, or_false] at hs
      rcases hs with rfl | rfl | rfl | rfl | rfl | rfl
      · simp at h0
      · unfold same at h0 ih ⊢
        split at h0
        · rename_i hc
          rw [if_pos hc] at ih ⊢
          have he := (at_inj hc.1 hc.2.1).1 hc.2.2
          have ih' : Al W (x.drop (i + 1)) (y.drop (j + 1)) (D W x y (i + 1) (j + 1)) := ih
          rw [drop_cons hc.1, drop_cons hc.2.1, he]
          show Al W _ _ (0 + D W x y (i + 1) (j + 1))
          rw [Int.zero_add]
          exact Al.same _ ih'
        · simp at h0
      · unfold change at h0 ih ⊢
        split at h0
        · rename_i hc
          rw [if_pos hc] at ih ⊢
          have hab : x[i] ≠ y[j] := fun h => hc.2.2 ((at_inj hc.1 hc.2.1).2 h)
          rw [drop_cons hc.1, drop_cons hc.2.1]
          have ih' : Al W (x.drop (i + 1)) (y.drop (j + 1)) (D W x y (i + 1) (j + 1)) := ih
          obtain ⟨c1, c2, c3⟩ := hc
          have hcc : (look W.near (at_ x i) (at_ y j)).getD W.chg = W.cc x[i] y[j] := by unfold cc; rw [at_eq c1, at_eq c2]
          show Al W _ _ ((look W.near (at_ x i) (at_ y j)).getD W.chg + D W x y (i + 1) (j + 1))
          rw [hcc]
          exact Al.chg _ _ hab ih'
        · simp at h0
      · unfold insert at h0 ih ⊢
        split at h0
        · rename_i hc
          rw [if_pos hc] at ih ⊢
          have ih' : Al W (x.drop i) (y.drop (j + 1)) (D W x y i (j + 1)) := ih
          rw [drop_cons hc]
          exact Al.ins y[j] ih'
        · simp at h0
      · unfold delete at h0 ih ⊢
        split at h0
        · rename_i hc
          rw [if_pos hc] at ih ⊢
          have ih' : Al W (x.drop (i + 1)) (y.drop j) (D W x y (i + 1) j) := ih
          rw [drop_cons hc]
          exact Al.del x[i] ih'
        · simp at h0
      · unfold swap at h0 ih ⊢
        split at h0
        · rename_i hc
          rw [if_pos hc] at ih ⊢
          obtain ⟨c1, c2, c3, c4, c5⟩ := hc
          have hab : x[i] ≠ y[j] := fun h => c3 ((at_inj (by omega) (by omega)).2 h)
          have e1 := (at_inj (show i < x.length by omega) c2).1 c4
          have e2 := (at_inj c1 (show j < y.length by omega)).1 c5
          rw [drop_cons (show i < x.length by omega), drop_cons c1, drop_cons (show j < y.length by omega), drop_cons c2, e1, ← e2]
          have ih' : Al W (x.drop (i + 1 + 1)) (y.drop (j + 1 + 1)) (D W x y (i + 2) (j + 2)) := ih
          rw [e1, ← e2] at hab
          exact Al.swp _ _ hab ih'
        · simp at h0
    · have e1 : i = x.length := by omega
      have e2 : j = y.length := by omega
      subst e1 e2
      rw [D_end hW hx hy, List.drop_length, List.drop_length]
      exact Al.nil
/-- .. and the least -/
theorem D_min {W : Wt} (hW : W.valid = true) {x y : List UInt8} (hx : x.length ≤ 120) (hy : y.length ≤ 120) {x' y' : List UInt8} {c : Int} (h : Al W x' y' c) : ∀ (i j : Nat), x' = x.drop i → y' = y.drop j → i ≤ x.length → j ≤ y.length → D W x y i j ≤ c := by
  have hv := valid_num hW
  induction h with
  | nil =>
    intro i j e1 e2 hi hj
    have h1 : i = x.length := by have := congrArg List.length e1; simp at this; omega
    have h2 : j = y.length := by have := congrArg List.length e2; simp at this; omega
    rw [h1, h2, D_end hW hx hy]; omega
  | @same a x1 y1 c _ ih =>
    intro i j e1 e2 hi hj
    obtain ⟨i1, a1, r1⟩ := of_drop e1.symm
    obtain ⟨j1, b1, r2⟩ := of_drop e2.symm
    have := ih (i + 1) (j + 1) r1.symm r2.symm (by omega) (by omega)
    have hs := D_le hW hx hy hi hj (s := same x y i j) (by simp [steps])
    have e : same x y i j = (0, 1, 1) := by unfold same; rw [if_pos ⟨i1, j1, (at_inj i1 j1).2 (by rw [a1, b1])⟩]
    rw [e] at hs
    have := hs (by decide)
    simp at this
    omega
  | @chg a b x1 y1 c hab _ ih =>
    intro i j e1 e2 hi hj
    obtain ⟨i1, a1, r1⟩ := of_drop e1.symm
    obtain ⟨j1, b1, r2⟩ := of_drop e2.symm
    have := ih (i + 1) (j + 1) r1.symm r2.symm (by omega) (by omega)
    have hs := D_le hW hx hy hi hj (s := change W x y i j) (by simp [steps])
    have e : change W x y i j = (W.cc a b, 1, 1) := by unfold change; rw [if_pos ⟨i1, j1, fun h => hab (by rw [← a1, ← b1]; exact (at_inj i1 j1).1 h)⟩, at_eq i1, at_eq j1, a1, b1]; rfl
    have hc : 0 ≤ W.cc a b := by
      unfold cc
      cases hl : look W.near (a.toNat : Int) (b.toNat : Int) with
      | none => simp; omega
      | some c => simpa using (look_le hW hl).1
    rw [e] at hs
    have := hs hc
    simp at this
    omega
  | @ins b x1 y1 c _ ih =>
    intro i j e1 e2 hi hj
    obtain ⟨j1, b1, r2⟩ := of_drop e2.symm
    have := ih i (j + 1) e1 r2.symm (by omega) (by omega)
    have hs := D_le hW hx hy hi hj (s := insert W y j) (by simp [steps])
    have e : insert W y j = (W.ins, 0, 1) := by unfold insert; rw [if_pos j1]
    rw [e] at hs
    have := hs (by simp; omega)
    simp at this
    omega
  | @del a x1 y1 c _ ih =>
    intro i j e1 e2 hi hj
    obtain ⟨i1, a1, r1⟩ := of_drop e1.symm
    have := ih (i + 1) j r1.symm e2 (by omega) (by omega)
    have hs := D_le hW hx hy hi hj (s := delete W x i) (by simp [steps])
    have e : delete W x i = (W.del, 1, 0) := by unfold delete; rw [if_pos i1]
    rw [e] at hs
    have := hs (by simp; omega)
    simp at this
    omega
  | @swp a b x1 y1 c hab _ ih =>
    intro i j e1 e2 hi hj
    obtain ⟨i1, a1, r1⟩ := of_drop e1.symm
    obtain ⟨i2, a2, r1⟩ := of_drop r1
    obtain ⟨j1, b1, r2⟩ := of_drop e2.symm
    obtain ⟨j2, b2, r2⟩ := of_drop r2
    have := ih (i + 2) (j + 2) r1.symm r2.symm (by omega) (by omega)
    have hs := D_le hW hx hy hi hj (s := swap W x y i j) (by simp [steps])
    have e : swap W x y i j = (W.swp, 2, 2) := by
      unfold swap
      rw [if_pos ⟨i2, j2, fun h => hab (by rw [← a1, ← b1]; exact (at_inj i1 j1).1 h), (at_inj i1 j2).2 (by rw [a1, b2]), (at_inj i2 j1).2 (by rw [a2, b1])⟩]
    rw [e] at hs
    have := hs (by simp; omega)
    simp at this
    omega

end Wt
end Go.Proofs.Ytnpdhbagfkilkaa

/- The plain side: what Check and Best compute. -/
set_option linter.unusedVariables false
set_option linter.unusedSimpArgs false
namespace Go.Proofs.Ytnpdhbagfkilkaa
namespace Wt

def stp (W : Wt) (x y : List UInt8) (i j k : Nat) : Int × Int × Int := (W.steps x y i j)[k]?.getD no
theorem stp_get {W : Wt} {x y : List UInt8} {i j k : Nat} (h : k < 6) : (W.steps x y i j)[k]? = some (stp W x y i j k) := by
  unfold stp
  rw [List.getElem?_eq_getElem (show k < (W.steps x y i j).length from h)]; rfl
theorem stp_mem {W : Wt} {x y : List UInt8} {i j k : Nat} (h : k < 6) : stp W x y i j k ∈ W.steps x y i j := List.mem_of_getElem? (stp_get h)
theorem stp_fits {W : Wt} (hW : W.valid = true) {x y : List UInt8} {i j k : Nat} (hi : i ≤ x.length) (hj : j ≤ y.length) (h : k < 6) : fits x y i j (stp W x y i j k) := steps_fit hW hi hj _ (stp_mem h)

/-- Check's sum, or none -/
def checkF (W : Wt) (x y : List UInt8) : List Int → Nat → Nat → Int → Option Int
  | [], i, j, sum => if i < x.length ∨ j < y.length then none else some sum
  | k :: l, i, j, sum =>
    if k < 1 ∨ 5 < k then none
    else if (stp W x y i j k.toNat).1 < 0 then none
    else checkF W x y l (i + (stp W x y i j k.toNat).2.1.toNat) (j + (stp W x y i j k.toNat).2.2.toNat) (sum + (stp W x y i j k.toNat).1)
def check (W : Wt) (x y : List UInt8) (l : List Int) : Option Int := if ok3 W x y then checkF W x y l 0 0 0 else none

/-! Best -/
def goodK (W : Wt) (x y : List UInt8) (i j k : Nat) : Bool :=
  decide (0 ≤ (stp W x y i j k).1) && decide ((stp W x y i j k).1 + D W x y (i + (stp W x y i j k).2.1.toNat) (j + (stp W x y i j k).2.2.toNat) = D W x y i j)
def firstK (W : Wt) (x y : List UInt8) (i j : Nat) : Nat := ((List.range 6).find? (goodK W x y i j)).getD 6
def bestF (W : Wt) (x y : List UInt8) : Nat → Nat → Nat → List Int
  | 0, _, _ => []
  | n + 1, i, j => if i < x.length ∨ j < y.length then (firstK W x y i j : Int) :: bestF W x y n (i + (stp W x y i j (firstK W x y i j)).2.1.toNat) (j + (stp W x y i j (firstK W x y i j)).2.2.toNat) else []
def G (W : Wt) (x y : List UInt8) (i j : Nat) : List Int := bestF W x y (rem x y i j) i j

theorem firstK_spec {W : Wt} (hW : W.valid = true) {x y : List UInt8} (hx : x.length ≤ 120) (hy : y.length ≤ 120) {i j : Nat} (hi : i ≤ x.length) (hj : j ≤ y.length) (hne : i < x.length ∨ j < y.length) :
    firstK W x y i j < 6 ∧ 1 ≤ firstK W x y i j ∧ goodK W x y i j (firstK W x y i j) = true ∧ ∀ k, k < firstK W x y i j → goodK W x y i j k = false := by
  obtain ⟨s, hs, h0, e⟩ := D_some hW hx hy hi hj hne
  obtain ⟨k, hk⟩ := List.getElem?_of_mem hs
  have hk6 : k < 6 := (List.getElem?_eq_some_iff.1 hk).1
  have hsk : stp W x y i j k = s := by unfold stp; rw [hk]; rfl
  have hgood : goodK W x y i j k = true := by
    unfold goodK
    rw [hsk]
    simp [h0, e]
  unfold firstK
  cases hf : (List.range 6).find? (goodK W x y i j) with
  | none =>
    rw [List.find?_eq_none] at hf
    exact absurd hgood (hf k (by simp [hk6]))
  | some q =>
    have hq := List.mem_of_find?_eq_some hf
    have hq6 : q < 6 := by simpa using hq
    have hgq := List.find?_some hf
    refine ⟨hq6, ?_, hgq, fun k' hk' => ?_⟩
    · rcases Nat.eq_zero_or_pos q with rfl | h
      · simp [goodK, stp, steps] at hgq
      · exact h
    · simp only [Option.getD_some] at hk'
      rw [List.find?_range_eq_some] at hf
      simpa using hf.2.2 k' hk'

theorem bestF_stable {W : Wt} (hW : W.valid = true) {x y : List UInt8} (hx : x.length ≤ 120) (hy : y.length ≤ 120) : ∀ (n m i j : Nat), i ≤ x.length → j ≤ y.length → rem x y i j ≤ n → rem x y i j ≤ m → bestF W x y n i j = bestF W x y m i j
  | 0, 0, _, _, _, _, _, _ => rfl
  | 0, m + 1, i, j, hi, hj, h, _ => by
    have : ¬ (i < x.length ∨ j < y.length) := by unfold rem at h; omega
    simp [bestF, this]
  | n + 1, 0, i, j, hi, hj, _, h => by
    have : ¬ (i < x.length ∨ j < y.length) := by unfold rem at h; omega
    simp [bestF, this]
  | n + 1, m + 1, i, j, hi, hj, hn, hm => by
    by_cases hne : i < x.length ∨ j < y.length
    · obtain ⟨h6, h1, hg, _⟩ := firstK_spec hW hx hy hi hj hne
      have hf := (stp_fits hW hi hj h6).resolve_left (by simp [goodK] at hg; omega)
      obtain ⟨f1, f2, f3, f4, f5, f6⟩ := hf
      simp only [bestF, hne, if_true]
      rw [bestF_stable hW hx hy n m _ _ (by omega) (by omega) (by unfold rem at *; omega) (by unfold rem at *; omega)]
    · simp [bestF, hne]
theorem G_end {W : Wt} {x y : List UInt8} {i j : Nat} (h : ¬ (i < x.length ∨ j < y.length)) : G W x y i j = [] := by
  unfold G
  cases hr : rem x y i j with
  | zero => rfl
  | succ n => simp [bestF, h]
theorem G_rec {W : Wt} (hW : W.valid = true) {x y : List UInt8} (hx : x.length ≤ 120) (hy : y.length ≤ 120) {i j : Nat} (hi : i ≤ x.length) (hj : j ≤ y.length) (hne : i < x.length ∨ j < y.length) :
    G W x y i j = (firstK W x y i j : Int) :: G W x y (i + (stp W x y i j (firstK W x y i j)).2.1.toNat) (j + (stp W x y i j (firstK W x y i j)).2.2.toNat) := by
  obtain ⟨h6, h1, hg, _⟩ := firstK_spec hW hx hy hi hj hne
  have hf := (stp_fits hW hi hj h6).resolve_left (by simp [goodK] at hg; omega)
  obtain ⟨f1, f2, f3, f4, f5, f6⟩ := hf
  have hr : 0 < rem x y i j := by unfold rem; omega
  unfold G
  obtain ⟨n, hn⟩ : ∃ n, rem x y i j = n + 1 := ⟨rem x y i j - 1, by omega⟩
  rw [hn]
  simp only [bestF, hne, if_true]
  rw [bestF_stable hW hx hy n (rem x y (i + (stp W x y i j (firstK W x y i j)).2.1.toNat) (j + (stp W x y i j (firstK W x y i j)).2.2.toNat)) _ _ (by omega) (by omega) (by unfold rem at *; omega) (Nat.le_refl _)]
end Wt
def bestL (W : Wt) (x y : List UInt8) : List Int := if ok3 W x y then W.G x y 0 0 else []
end Go.Proofs.Ytnpdhbagfkilkaa

/- A region that draws its order, whose operations yield the same values in every world of a class: one walk in the text's order; with a tail in a forced order, too (the tail may make memory). -/
set_option linter.unusedVariables false
set_option linter.unusedSimpArgs false
namespace Go.Proofs.Ytnpdhbagfkilkaa
open Go Go.RowKit

section
variable {P : Program} {ops : Array Oper} {md : Region.Mode} {C : World → Prop}

/-- whatever order the head takes; behind it L -/
def wpAnyT (P : Program) (md : Region.Mode) (ops : Array Oper) (C : World → Prop) (n : Nat) (L : Array Bool → Act → Prop) : Nat → Array Bool → Act → Prop
  | 0, listed, a => L listed a
  | f + 1, listed, a => Region.ready md ops listed ≠ [] ∧ ∀ i ∈ Region.ready md ops listed, i < n ∧ qOp P ops C i (wpAnyT P md ops C n L f (listed.setIfInBounds i true)) a

theorem wpAny_of_T {n g : Nat} {L : Array Bool → Act → Prop} {Q : Exit → Act → World → Prop} (hL : ∀ listed a w, C w → L listed a → wpAny P md ops Q g listed a w) :
    ∀ (f : Nat) (listed : Array Bool) (a : Act) (w : World), C w → wpAnyT P md ops C n L f listed a → wpAny P md ops Q (f + g) listed a w := by
  intro f
  induction f with
  | zero => intro listed a w hw h; rw [Nat.zero_add]; exact hL _ _ _ hw h
  | succ f ih =>
    intro listed a w hw h
    rw [Nat.succ_add]
    exact ⟨fun h0 => absurd h0 h.1, fun i hi => wpOp_of_qOp hw (fun a' w' hw' h' => ih _ a' w' hw' h') (h.2 i hi).2⟩

/-- an operation of the head that may come up now may be taken first -/
theorem wpAnyT_first {n i : Nat} {oi : Oper} {v : Value} {L : Array Bool → Act → Prop} (hi : ops[i]? = some oi) (hsel : ∀ (j : Nat) (o : Oper) cs b, ops[j]? = some o → o.op ≠ .select cs b)
    (hs : Region.sinkB md ops n = true) (hc : Region.chainB md ops n = true) (hn : n < ops.size) (hin : i < n) (hdone : ∀ listed a, L listed a → ∀ j ∈ Region.ready md ops listed, n ≤ j) :
    ∀ (f : Nat) (listed : Array Bool) (a : Act), HeadInv md ops n listed →
      (∀ j oj, ops[j]? = some oj → j ≠ i → listed.getD j true = false → (∀ e ∈ oj.after, Region.binds md e = true → e.on ≠ i) → oi.apart ops oj = true) →
      i ∈ Region.ready md ops listed → YieldsIn P ops C oi v a →
      wpAnyT P md ops C n L f (listed.setIfInBounds i true) (a.put oi.dst v) → wpAnyT P md ops C n L (f + 1) listed a := by
  intro f
  induction f with
  | zero =>
    intro listed a inv _ hr hy H
    have hun := (mem_ready.1 hr).1
    refine ⟨List.ne_nil_of_mem hr, fun j hj => ?_⟩
    have hjn : j < n := Nat.lt_of_not_le fun h => tail_waits hs hc hn inv _ i rfl hin hun j h hj
    refine ⟨hjn, ?_⟩
    rcases Nat.decEq j i with hji | hji
    · exact absurd (hdone _ _ H j (ready_mono hj hji)) (by omega)
    · subst hji; exact hy.qOp hi H
  | succ f ih =>
    intro listed a inv hfree hr hy H
    have hun := (mem_ready.1 hr).1
    refine ⟨List.ne_nil_of_mem hr, fun j hj => ?_⟩
    have hjn : j < n := Nat.lt_of_not_le fun h => tail_waits hs hc hn inv _ i rfl hin hun j h hj
    refine ⟨hjn, ?_⟩
    rcases Nat.decEq j i with hji | hji
    · obtain ⟨hjun, oj, hoj, hall⟩ := mem_ready.1 hj
      have hnot : ∀ e ∈ oj.after, Region.binds md e = true → e.on ≠ i := fun e he hb heq => by
        have h1 := hall e he hb
        rw [heq, getD_both hun] at h1
        cases h1
      have h2 := qOp_put hoj (hfree j oj hoj hji hjun hnot) (fun cs b => hsel i oi cs b hi) (fun cs b => hsel j oj cs b hoj) hy (H.2 j (ready_mono hj hji)).2
      refine qOp_mono (fun a' h3 => ih (listed.setIfInBounds j true) a' (inv.set hj hjn) ?_ (ready_mono hr (Ne.symm hji)) h3.1 ?_) h2
      · intro k ok hk hki hun' hno
        refine hfree k ok hk hki ?_ hno
        rcases Nat.decEq j k with hjk | hjk
        · rwa [getD_set_ne true hjk] at hun'
        · subst hjk; exact hjun
      · rw [Array.setIfInBounds_comm _ _ hji]
        exact h3.2
    · subst hji; exact hy.qOp hi H

theorem wpAnyT_lex {n g : Nat} {K : Act → Prop} (hsel : Region.noSelect ops = true) (hs : Region.sinkB md ops n = true) (hc : Region.chainB md ops n = true) (hn : n < ops.size) :
    ∀ (l : List Oper) (k : Nat) (listed : Array Bool) (a : Act), (∀ j, j < l.length → l[j]? = ops[k + j]?) → k + l.length = n → HeadInv md ops n listed →
    Region.lexHead md ops g l.length k listed = true → wpQuiet P ops C K l a →
    wpAnyT P md ops C n (fun listed' a' => Region.seqB md ops g n listed' = true ∧ K a') l.length listed a
  | [], k, listed, a, _, hk, _, hB, h => by
    obtain rfl : k = n := by simpa using hk
    exact ⟨by simpa [Region.lexHead] using hB, h⟩
  | o :: l, k, listed, a, hl, hk, inv, hB, h => by
    have h0 : ops[k]? = some o := by simpa using (hl 0 (by simp)).symm
    simp only [List.length_cons, Region.lexHead, Bool.and_eq_true] at hB
    have hkn : k < n := by simp only [List.length_cons] at hk; omega
    have hr : k ∈ Region.ready md ops listed := by simpa using hB.1.1
    have hq : qOp P ops C k (wpQuiet P ops C K l) a := by unfold qOp; simp only [h0]; exact h
    obtain ⟨v, hy, hK⟩ := yieldsIn_of_qOp h0 hq
    exact wpAnyT_first h0 (Region.noSelect_spec hsel) hs hc hn hkn (fun _ _ hL => seqB_ready hL.1) l.length listed a inv (Region.free_spec h0 hB.1.2) hr hy
      (wpAnyT_lex hsel hs hc hn l (k + 1) _ _ (fun j hj => by have := hl (j + 1) (by simp; omega); simpa [Nat.add_assoc, Nat.add_comm 1 j] using this) (by simp only [List.length_cons] at hk; omega) (inv.set hr hkn) hB.2 hK)

/-- one walk serves every order: the class is what g takes on -/
theorem wp_region_class {U : Type} (g : U → World) {id : Nat} {Q : Exit → Act → World → Prop} {a : Act} {w : World} {l : List Oper} (hm : P.follows .mixedOrders = true) (hB : Region.lexB .any l.toArray = true) (hC : ∃ u, w.drew = g u)
    (h : wpQuiet P l.toArray (fun w' => ∃ u, w' = g u) (fun a' => ∀ w', (∃ u, w' = g u) → Q .normal a' w') l a) : (Code.region id l.toArray true).wp P Q a w :=
  wp_region_quiet (C := fun w' => ∃ u, w' = g u) hm hB hC (by simpa using h)
/-- the head is of the class, the tail's order is forced -/
theorem wp_region_class_tail {U : Type} (g : U → World) (n : Nat) {id : Nat} {Q : Exit → Act → World → Prop} {a : Act} {w : World} {l : List Oper} (hm : P.follows .mixedOrders = true) (hB : Region.lexTailB .any l.toArray n = true) (hC : ∃ u, w.drew = g u)
    (h : wpQuiet P l.toArray (fun w' => ∃ u, w' = g u) (fun a' => ∀ w', (∃ u, w' = g u) → wpList P l.toArray Q (l.drop n) a' w') (l.take n) a) : (Code.region id l.toArray true).wp P Q a w := by
  simp only [Region.lexTailB, Bool.and_eq_true, decide_eq_true_eq] at hB
  obtain ⟨⟨⟨⟨hsel, hn⟩, hs⟩, hc⟩, hlex⟩ := hB
  have hsz : l.toArray.size = l.length := by simp
  have htl : (l.take n).length = n := by simp; omega
  have hdl : (l.drop n).length = l.toArray.size - n := by simp
  have inv0 : HeadInv .any l.toArray n (Array.replicate l.toArray.size false) :=
    ⟨by simp, fun j oj _ hl => (by rw [getD_replicate_false] at hl; cases hl), fun t _ ht => getD_in (by simpa using ht) (getD_replicate_false _ _)⟩
  have H := wpAnyT_lex (md := .any) (g := l.toArray.size - n) hsel hs hc hn (l.take n) 0 _ a (fun j hj => by
    rw [htl] at hj
    simp [hj]) (by simpa using htl) inv0 (by rw [htl]; exact hlex) h
  refine wp_region_any hm ?_
  have := wpAny_of_T (Q := Q) (g := l.toArray.size - n) (fun listed a' w' hw' hL => by
    have := wpAny_of_seq (md := .any) (Q' := Q) (l.drop n) n listed a' w' (fun j => by simp [List.getElem?_drop]) (by rw [hdl]; exact hL.1) (hL.2 w' hw')
    rwa [hdl] at this) _ _ _ _ hC H
  rw [htl, show n + (l.toArray.size - n) = l.toArray.size by omega] at this
  exact this
end

/-- the worlds of a class, as what a function takes on -/
theorem the_class (I : World → Prop) {w : World} (hw : I w) : ∃ (U : Type) (_ : Nonempty U) (g : U → World), (∀ u, I (g u)) ∧ ∀ w', I w' → ∃ u, w' = g u := ⟨{w' // I w'}, ⟨⟨w, hw⟩⟩, fun u => u.1, fun u => u.2, fun w' h => ⟨⟨w', h⟩, rfl⟩⟩
end Go.Proofs.Ytnpdhbagfkilkaa

/- The worlds of a walk as one letter: everything that keeps what a first world had; blocks in such a class. -/
set_option linter.unusedVariables false
set_option linter.unusedSimpArgs false
namespace Go.Proofs.Ytnpdhbagfkilkaa
open Go.RowKit

/-- the worlds that keep what w1 had, as one letter -/
theorem cls (w1 : World) : ∃ (U : Type) (_ : Nonempty U) (g : U → World) (u0 : U), w1 = g u0 ∧ (∀ u, Below w1.heap.size w1 (g u)) ∧ ∀ w', Below w1.heap.size w1 w' → ∃ u, w' = g u := by
  obtain ⟨U, hU, g, hgu, hi⟩ := the_class (fun w' => Below w1.heap.size w1 w') (Below.refl w1.heap.size w1)
  obtain ⟨u0, h0⟩ := hi w1 (Below.refl _ _)
  exact ⟨U, hU, g, u0, h0, hgu, hi⟩
theorem cls_call {P : Program} {f : FuncId} {args : Array Value} {w1 : World} {v : Value} {U : Type} {g : U → World} (hgu : ∀ u, Below w1.heap.size w1 (g u)) (hi : ∀ w', Below w1.heap.size w1 w' → ∃ u, w' = g u)
    (h : ∀ w : World, Below w1.heap.size w1 w → Calls P f args w fun e w' => e = .returned v ∧ Below w.heap.size w w') (u : U) : Calls P f args (g u) fun e w' => e = .returned v ∧ ∃ u', w' = g u' :=
  (h _ (hgu u)).mono fun _ _ ⟨he, hb⟩ => ⟨he, hi _ ((hgu u).trans (hb.mono (hgu u).size))⟩
theorem below_to {B : Nat} {w w1 w2 : World} (h : Below B w w1) (hB : B ≤ w.heap.size) (h' : Below w1.heap.size w1 w2) : Below B w w2 := h.trans (h'.mono (Nat.le_trans hB h.size))
theorem Blk.to {w1 w' : World} {b : Nat} {t : TypeId} {cs : Array Value} (H : Blk w1 b t cs) (hb : Below w1.heap.size w1 w') : Blk w' b t cs := H.below hb H.lt
end Go.Proofs.Ytnpdhbagfkilkaa

/- Texts as lists of bytes, and their values. -/
set_option linter.unusedVariables false
set_option linter.unusedSimpArgs false
namespace Go.Proofs.Ytnpdhbagfkilkaa
open Go.RowKit

def bs (l : List UInt8) : ByteArray := ⟨l.toArray⟩
theorem bs_list (l : List UInt8) : (bs l).data.toList = l := by simp [bs]
theorem bs_size (l : List UInt8) : (bs l).size = l.length := by simp [bs, ByteArray.size]
theorem bs_toList (l : List UInt8) : (bs l).toList = l := by rw [ByteArray.toList_eq, bs_list]
theorem bs_cut (l : List UInt8) (k n : Nat) : (bs l).extract k n = bs ((l.drop k).take (n - k)) := by
  apply ByteArray.ext
  apply Array.toList_inj.1
  rw [Lib.extract_data]
  simp only [bs_list]
/-- a byte of a text -/
theorem index_bs (l : List UInt8) (k : Nat) (c : UInt8) (hc : l[k]? = some c) (w : World) : (Instr.index 9 (.string (bs l)) (.int .i64 (k : Int))).run Try.prog w = .ok (.int .u8 (c.toNat : Int)) w := by
  have hk : k < (bs l).size := by
    rw [bs_size]
    rcases Nat.lt_or_ge k l.length with h | h
    · exact h
    · rw [List.getElem?_eq_none h] at hc; cases hc
  have he : (bs l)[k] = c := by
    have h1 : (bs l).data[k]? = some c := by show l.toArray[k]? = _; simpa using hc
    have h2 : (bs l).data[k]? = some ((bs l)[k]) := Array.getElem?_eq_getElem (xs := (bs l).data) hk
    rw [h1] at h2
    exact (Option.some.inj h2).symm
  rw [← he]
  go_simp
end Go.Proofs.Ytnpdhbagfkilkaa

/- The reference of layer 18: Step. -/
set_option linter.unusedVariables false
set_option linter.unusedSimpArgs false
namespace Go.Proofs.Ytnpdhbagfkilkaa
open Go.RowKit

theorem index_ba (x : ByteArray) (k : Nat) (a : UInt8) (h : x.data.toList[k]? = some a) (w : World) : (Instr.index 9 (.string x) (.int .i64 (k : Int))).run Try.prog w = .ok (.int .u8 (a.toNat : Int)) w := by
  have e : bs x.data.toList = x := by cases x; simp [bs]
  have := index_bs x.data.toList k a h w
  rwa [e] at this
theorem at_of {x : List UInt8} {k : Nat} {a : UInt8} (h : x[k]? = some a) : Wt.at_ x k = (a.toNat : Int) := by unfold Wt.at_; rw [h]; rfl
/-- what the reference's Step returns -/
def stepR (W : Wt) (x y : List UInt8) (i j : Nat) (kind : Int) : Int × Int × Int × Bool :=
  if 1 ≤ kind ∧ kind ≤ 5 then (if (Wt.stp W x y i j kind.toNat).1 < 0 then (0, 0, 0, false) else ((Wt.stp W x y i j kind.toNat).1, (Wt.stp W x y i j kind.toNat).2.1, (Wt.stp W x y i j kind.toNat).2.2, true)) else (0, 0, 0, false)
def stepV (q : Int × Int × Int × Bool) : Value := .tuple #[.int .i64 q.1, .int .i64 q.2.1, .int .i64 q.2.2.1, .bool q.2.2.2]
theorem stepR_no {W : Wt} {x y : List UInt8} {i j : Nat} {kind : Int} (h : ¬ (1 ≤ kind ∧ kind ≤ 5)) : stepR W x y i j kind = (0, 0, 0, false) := by unfold stepR; rw [if_neg h]
theorem stepR_k {W : Wt} {x y : List UInt8} {i j k : Nat} {s : Int × Int × Int} (h1 : 1 ≤ k) (h5 : k ≤ 5) (h : Wt.stp W x y i j k = s) : stepR W x y i j (k : Int) = if s.1 < 0 then (0, 0, 0, false) else (s.1, s.2.1, s.2.2, true) := by
  unfold stepR
  rw [if_pos ⟨by omega, by omega⟩, show ((k : Int)).toNat = k by omega, h]
theorem results_tmp4 {fn : Func} {t u v x : Tmp} (h : fn.results = #[.tmp t, .tmp u, .tmp v, .tmp x]) (tmps : Array Value) (P : Program) (w : World) :
    (results fn tmps).run P w = .ok (.tuple #[tmps.getD t undef, tmps.getD u undef, tmps.getD v undef, tmps.getD x undef]) w := by
  simp [results, h]
theorem stepR_1y {W : Wt} {x y : List UInt8} {i j : Nat} {a b : UInt8} (ha : x[i]? = some a) (hb : y[j]? = some b) (h : a = b) : stepR W x y i j 1 = (0, 1, 1, true) := by
  have hi := (List.getElem?_eq_some_iff.1 ha).1
  have hj := (List.getElem?_eq_some_iff.1 hb).1
  refine (stepR_k (k := 1) (by decide) (by decide) (s := (0, 1, 1)) ?_).trans rfl
  show Wt.same x y i j = _
  unfold Wt.same
  rw [at_of ha, at_of hb, if_pos ⟨hi, hj, by rw [h]⟩]
theorem stepR_1n {W : Wt} {x y : List UInt8} {i j : Nat} (h : ¬ (i < x.length ∧ j < y.length ∧ Wt.at_ x i = Wt.at_ y j)) : stepR W x y i j 1 = (0, 0, 0, false) := by
  refine (stepR_k (k := 1) (by decide) (by decide) (s := Wt.no) ?_).trans rfl
  show Wt.same x y i j = _
  unfold Wt.same; rw [if_neg h]
theorem look_ge {W : Wt} (hW : W.valid = true) (a b : Int) : 0 ≤ (Wt.look W.near a b).getD W.chg := by
  unfold Wt.look
  cases h : W.near.find? (fun n => (n.1 == a && n.2.1 == b) || (n.1 == b && n.2.1 == a)) with
  | none => have := Wt.valid_num hW; simp; omega
  | some n => have := Wt.valid_near hW n (List.mem_of_find?_eq_some h); simp; omega
theorem stepR_2y {W : Wt} (hW : W.valid = true) {x y : List UInt8} {i j : Nat} {a b : UInt8} (ha : x[i]? = some a) (hb : y[j]? = some b) (h : a ≠ b) : stepR W x y i j 2 = ((Wt.look W.near (a.toNat : Int) (b.toNat : Int)).getD W.chg, 1, 1, true) := by
  have hi := (List.getElem?_eq_some_iff.1 ha).1
  have hj := (List.getElem?_eq_some_iff.1 hb).1
  refine (stepR_k (k := 2) (by decide) (by decide) (s := ((Wt.look W.near (a.toNat : Int) (b.toNat : Int)).getD W.chg, 1, 1)) ?_).trans ?_
  · show Wt.change W x y i j = _
    unfold Wt.change
    rw [at_of ha, at_of hb, if_pos ⟨hi, hj, fun e => h (UInt8.toNat_inj.1 (by omega))⟩]
  · rw [if_neg (by have := look_ge hW (a.toNat : Int) (b.toNat : Int); show ¬ _ < _; omega)]
theorem stepR_2n {W : Wt} {x y : List UInt8} {i j : Nat} (h : ¬ (i < x.length ∧ j < y.length ∧ Wt.at_ x i ≠ Wt.at_ y j)) : stepR W x y i j 2 = (0, 0, 0, false) := by
  refine (stepR_k (k := 2) (by decide) (by decide) (s := Wt.no) ?_).trans rfl
  show Wt.change W x y i j = _
  unfold Wt.change; rw [if_neg h]
theorem stepR_3y {W : Wt} (hW : W.valid = true) {x y : List UInt8} {i j : Nat} (h : j < y.length) : stepR W x y i j 3 = (W.ins, 0, 1, true) := by
  refine (stepR_k (k := 3) (by decide) (by decide) (s := (W.ins, 0, 1)) ?_).trans ?_
  · show Wt.insert W y j = _
    unfold Wt.insert; rw [if_pos h]
  · rw [if_neg (by have := Wt.valid_num hW; show ¬ _ < _; omega)]
theorem stepR_3n {W : Wt} {x y : List UInt8} {i j : Nat} (h : ¬ j < y.length) : stepR W x y i j 3 = (0, 0, 0, false) := by
  refine (stepR_k (k := 3) (by decide) (by decide) (s := Wt.no) ?_).trans rfl
  show Wt.insert W y j = _
  unfold Wt.insert; rw [if_neg h]
theorem stepR_4y {W : Wt} (hW : W.valid = true) {x y : List UInt8} {i j : Nat} (h : i < x.length) : stepR W x y i j 4 = (W.del, 1, 0, true) := by
  refine (stepR_k (k := 4) (by decide) (by decide) (s := (W.del, 1, 0)) ?_).trans ?_
  · show Wt.delete W x i = _
    unfold Wt.delete; rw [if_pos h]
  · rw [if_neg (by have := Wt.valid_num hW; show ¬ _ < _; omega)]
theorem stepR_4n {W : Wt} {x y : List UInt8} {i j : Nat} (h : ¬ i < x.length) : stepR W x y i j 4 = (0, 0, 0, false) := by
  refine (stepR_k (k := 4) (by decide) (by decide) (s := Wt.no) ?_).trans rfl
  show Wt.delete W x i = _
  unfold Wt.delete; rw [if_neg h]
theorem stepR_5y {W : Wt} (hW : W.valid = true) {x y : List UInt8} {i j : Nat} {a b a' b' : UInt8} (ha : x[i]? = some a) (hb : y[j]? = some b) (ha' : x[i + 1]? = some a') (hb' : y[j + 1]? = some b') (h1 : a ≠ a') (h2 : a = b') (h3 : a' = b) : stepR W x y i j 5 = (W.swp, 2, 2, true) := by
  have hi := (List.getElem?_eq_some_iff.1 ha').1
  have hj := (List.getElem?_eq_some_iff.1 hb').1
  refine (stepR_k (k := 5) (by decide) (by decide) (s := (W.swp, 2, 2)) ?_).trans ?_
  · show Wt.swap W x y i j = _
    unfold Wt.swap
    rw [at_of ha, at_of hb, at_of ha', at_of hb', if_pos ⟨hi, hj, fun e => h1 (by rw [h3]; exact UInt8.toNat_inj.1 (by omega)), by rw [h2], by rw [h3]⟩]
  · rw [if_neg (by have := Wt.valid_num hW; show ¬ _ < _; omega)]
theorem stepR_5n {W : Wt} {x y : List UInt8} {i j : Nat} (h : ¬ (i + 1 < x.length ∧ j + 1 < y.length ∧ Wt.at_ x i ≠ Wt.at_ x (i + 1) ∧ Wt.at_ x i = Wt.at_ y (j + 1) ∧ Wt.at_ x (i + 1) = Wt.at_ y j)) : stepR W x y i j 5 = (0, 0, 0, false) := by
  refine (stepR_k (k := 5) (by decide) (by decide) (s := Wt.no) ?_).trans rfl
  show Wt.swap W x y i j = _
  unfold Wt.swap
  rw [if_neg (fun hh => h ⟨hh.1, hh.2.1, fun e => hh.2.2.1 (by rw [e, hh.2.2.2.2]), hh.2.2.2.1, hh.2.2.2.2⟩)]
set_option maxRecDepth 100000 in
set_option maxHeartbeats 8000000 in
theorem rstep1_any (W : Wt) (hW : W.valid = true) (A : Option Addr) (n c X : Nat) (x y : ByteArray) (i j : Nat) (w : World) (hN : Near w X A n W.near) (hX0 : X ≤ w.heap.size) (hn : n ≤ 140737488355328) (hi : i ≤ x.size) (hj : j ≤ y.size) (hx : x.size ≤ 120) (hy : y.size ≤ 120) :
    Calls Try.prog 32 #[wval W A n c, .string x, .string y, .int .i64 (i : Int), .int .i64 (j : Int), .int .i64 1] w fun e w' => e = .returned (stepV (stepR W x.data.toList y.data.toList i j 1)) ∧ Below w.heap.size w w' := by
  have HN := hide hN
  have HV := hide hW
  have HB1 := hide (Box.start w W A n c)
  have HSX : Hid (x.data.toList.length = x.size) := by show _ = _; simp
  have HSY : Hid (y.data.toList.length = y.size) := by show _ = _; simp
  obtain ⟨l, hl0⟩ : ∃ l, x.size - i = l := ⟨_, rfl⟩
  obtain ⟨r, hr0⟩ : ∃ r, y.size - j = r := ⟨_, rfl⟩
  have el : (x.size : Int) - (i : Int) = (l : Int) := by omega
  have er : (y.size : Int) - (j : Int) = (r : Int) := by omega
  have k0 : (0 : Int) ≤ (i : Int) := by omega
  have k1 : (0 : Int) ≤ (j : Int) := by omega
  clear hN hW
  go_enter Try.func32, Try.ntmps32
  unfold wval
  go_upto_region 3 with fail
  clear el er
  generalize w.alloc (.cells #[.int .i64 W.ins, .int .i64 W.del, .int .i64 W.chg, .int .i64 W.swp, .slice A n c] 24) = w1 at *
  obtain ⟨d0, d1, d2, d3, d4⟩ := HB1.out.facts
  by_cases hl : 0 < l
  · have g1 : decide ((0 : Int) < (l : Int)) = true := decide_eq_true (by omega)
    have g1' : decide (0 < l) = true := decide_eq_true (by omega)
    by_cases hr : 0 < r
    · have g2 : decide ((0 : Int) < (r : Int)) = true := decide_eq_true (by omega)
      have g2' : decide (0 < r) = true := decide_eq_true (by omega)
      obtain ⟨a, ha⟩ : ∃ c, x.data.toList[i]? = some c := ⟨_, List.getElem?_eq_getElem (by rw [HSX.out]; omega)⟩
      have ix := index_ba x _ a ha
      obtain ⟨b, hb⟩ : ∃ c, y.data.toList[j]? = some c := ⟨_, List.getElem?_eq_getElem (by rw [HSY.out]; omega)⟩
      have iy := index_ba y _ b hb
      have k2 : (i : Int) < (x.size : Int) := by omega
      have k3 : (j : Int) < (y.size : Int) := by omega
      by_cases he : a = b
      · have HF := hide (stepR_1y (W := W) ha hb he)
        have e : ((a.toNat : Int) == (b.toNat : Int)) = true := by rw [he]; simp
        clear he ha hb
        go_wp2_with fail
        go_quiet (fail)
        have HB2 := hide (HB1.out.next (below_drewN (Below.refl _ _) nq))
        clear d0 d1 d2 d3 d4 HB1
        generalize w1.drewN nq = w2 at *
        obtain ⟨d0, d1, d2, d3, d4⟩ := HB2.out.facts
        go_wp2_with fail
        refine bodyPost_ret (results_tmp4 rfl _ _ _) rfl ?_
        exact ⟨by rw [HF.out]; rfl, HB2.out.bel⟩
      · have HF := hide (stepR_1n (W := W) (x := x.data.toList) (y := y.data.toList) (i := i) (j := j) (fun hh => he (UInt8.toNat_inj.1 (by have := hh.2.2; rw [at_of ha, at_of hb] at this; omega))))
        have e : ((a.toNat : Int) == (b.toNat : Int)) = false := by rw [beq_eq_false_iff_ne]; intro h; exact he (UInt8.toNat_inj.1 (by omega))
        clear he ha hb
        go_wp2_with fail
        go_quiet (fail)
        have HB2 := hide (HB1.out.next (below_drewN (Below.refl _ _) nq))
        clear d0 d1 d2 d3 d4 HB1
        generalize w1.drewN nq = w2 at *
        obtain ⟨d0, d1, d2, d3, d4⟩ := HB2.out.facts
        go_wp2_with fail
        go_quiet (fail)
        have HB3 := hide (HB2.out.next (below_drewN (Below.refl _ _) nq))
        clear d0 d1 d2 d3 d4 HB2
        generalize w2.drewN nq = w3 at *
        obtain ⟨d0, d1, d2, d3, d4⟩ := HB3.out.facts
        go_wp2_with fail
        go_quiet (fail)
        have HB4 := hide (HB3.out.next (below_drewN (Below.refl _ _) nq))
        clear d0 d1 d2 d3 d4 HB3
        generalize w3.drewN nq = w4 at *
        obtain ⟨d0, d1, d2, d3, d4⟩ := HB4.out.facts
        go_wp2_with fail
        refine bodyPost_ret (results_tmp4 rfl _ _ _) rfl ?_
        exact ⟨by rw [HF.out]; rfl, HB4.out.bel⟩
    · have g2 : decide ((0 : Int) < (r : Int)) = false := decide_eq_false (by omega)
      have g2' : decide (0 < r) = false := decide_eq_false (by omega)
      have HF := hide (stepR_1n (W := W) (x := x.data.toList) (y := y.data.toList) (i := i) (j := j) (fun hh => by have := hh.2.1; rw [HSY.out] at this; omega))
      clear hr
      go_wp2_with fail
      go_quiet (fail)
      have HB2 := hide (HB1.out.next (below_drewN (Below.refl _ _) nq))
      clear d0 d1 d2 d3 d4 HB1
      generalize w1.drewN nq = w2 at *
      obtain ⟨d0, d1, d2, d3, d4⟩ := HB2.out.facts
      go_wp2_with fail
      go_quiet (fail)
      have HB3 := hide (HB2.out.next (below_drewN (Below.refl _ _) nq))
      clear d0 d1 d2 d3 d4 HB2
      generalize w2.drewN nq = w3 at *
      obtain ⟨d0, d1, d2, d3, d4⟩ := HB3.out.facts
      go_wp2_with fail
      go_quiet (fail)
      have HB4 := hide (HB3.out.next (below_drewN (Below.refl _ _) nq))
      clear d0 d1 d2 d3 d4 HB3
      generalize w3.drewN nq = w4 at *
      obtain ⟨d0, d1, d2, d3, d4⟩ := HB4.out.facts
      go_wp2_with fail
      refine bodyPost_ret (results_tmp4 rfl _ _ _) rfl ?_
      exact ⟨by rw [HF.out]; rfl, HB4.out.bel⟩
  · have g1 : decide ((0 : Int) < (l : Int)) = false := decide_eq_false (by omega)
    have g1' : decide (0 < l) = false := decide_eq_false (by omega)
    have HF := hide (stepR_1n (W := W) (x := x.data.toList) (y := y.data.toList) (i := i) (j := j) (fun hh => by have := hh.1; rw [HSX.out] at this; omega))
    clear hl
    go_wp2_with fail
    go_quiet (fail)
    have HB2 := hide (HB1.out.next (below_drewN (Below.refl _ _) nq))
    clear d0 d1 d2 d3 d4 HB1
    generalize w1.drewN nq = w2 at *
    obtain ⟨d0, d1, d2, d3, d4⟩ := HB2.out.facts
    go_wp2_with fail
    go_quiet (fail)
    have HB3 := hide (HB2.out.next (below_drewN (Below.refl _ _) nq))
    clear d0 d1 d2 d3 d4 HB2
    generalize w2.drewN nq = w3 at *
    obtain ⟨d0, d1, d2, d3, d4⟩ := HB3.out.facts
    go_wp2_with fail
    go_quiet (fail)
    have HB4 := hide (HB3.out.next (below_drewN (Below.refl _ _) nq))
    clear d0 d1 d2 d3 d4 HB3
    generalize w3.drewN nq = w4 at *
    obtain ⟨d0, d1, d2, d3, d4⟩ := HB4.out.facts
    go_wp2_with fail
    refine bodyPost_ret (results_tmp4 rfl _ _ _) rfl ?_
    exact ⟨by rw [HF.out]; rfl, HB4.out.bel⟩
set_option maxRecDepth 100000 in
set_option maxHeartbeats 8000000 in
theorem rstep2_any (W : Wt) (hW : W.valid = true) (A : Option Addr) (n c X : Nat) (x y : ByteArray) (i j : Nat) (w : World) (hN : Near w X A n W.near) (hX0 : X ≤ w.heap.size) (hn : n ≤ 140737488355328) (hi : i ≤ x.size) (hj : j ≤ y.size) (hx : x.size ≤ 120) (hy : y.size ≤ 120) :
    Calls Try.prog 32 #[wval W A n c, .string x, .string y, .int .i64 (i : Int), .int .i64 (j : Int), .int .i64 2] w fun e w' => e = .returned (stepV (stepR W x.data.toList y.data.toList i j 2)) ∧ Below w.heap.size w w' := by
  have HN := hide hN
  have HV := hide hW
  have HB1 := hide (Box.start w W A n c)
  have HSX : Hid (x.data.toList.length = x.size) := by show _ = _; simp
  have HSY : Hid (y.data.toList.length = y.size) := by show _ = _; simp
  obtain ⟨l, hl0⟩ : ∃ l, x.size - i = l := ⟨_, rfl⟩
  obtain ⟨r, hr0⟩ : ∃ r, y.size - j = r := ⟨_, rfl⟩
  have el : (x.size : Int) - (i : Int) = (l : Int) := by omega
  have er : (y.size : Int) - (j : Int) = (r : Int) := by omega
  have k0 : (0 : Int) ≤ (i : Int) := by omega
  have k1 : (0 : Int) ≤ (j : Int) := by omega
  clear hN hW
  go_enter Try.func32, Try.ntmps32
  unfold wval
  go_upto_region 3 with fail
  clear el er
  generalize w.alloc (.cells #[.int .i64 W.ins, .int .i64 W.del, .int .i64 W.chg, .int .i64 W.swp, .slice A n c] 24) = w1 at *
  obtain ⟨d0, d1, d2, d3, d4⟩ := HB1.out.facts
  by_cases hl : 0 < l
  · have g1 : decide ((0 : Int) < (l : Int)) = true := decide_eq_true (by omega)
    have g1' : decide (0 < l) = true := decide_eq_true (by omega)
    by_cases hr : 0 < r
    · have g2 : decide ((0 : Int) < (r : Int)) = true := decide_eq_true (by omega)
      have g2' : decide (0 < r) = true := decide_eq_true (by omega)
      obtain ⟨a, ha⟩ : ∃ c, x.data.toList[i]? = some c := ⟨_, List.getElem?_eq_getElem (by rw [HSX.out]; omega)⟩
      have ix := index_ba x _ a ha
      obtain ⟨b, hb⟩ : ∃ c, y.data.toList[j]? = some c := ⟨_, List.getElem?_eq_getElem (by rw [HSY.out]; omega)⟩
      have iy := index_ba y _ b hb
      have k2 : (i : Int) < (x.size : Int) := by omega
      have k3 : (j : Int) < (y.size : Int) := by omega
      by_cases he : a ≠ b
      · have HF := hide (stepR_2y HV.out ha hb he)
        have e : ((a.toNat : Int) != (b.toNat : Int)) = true := by rw [bne_iff_ne]; intro h; exact he (UInt8.toNat_inj.1 (by omega))
        clear he ha hb
        go_wp2_with fail
        go_quiet (fail)
        have HB2 := hide (HB1.out.next (below_drewN (Below.refl _ _) nq))
        clear d0 d1 d2 d3 d4 HB1
        generalize w1.drewN nq = w2 at *
        obtain ⟨d0, d1, d2, d3, d4⟩ := HB2.out.facts
        go_wp2_with fail
        go_quiet (fail)
        have HB3 := hide (HB2.out.next (below_drewN (Below.refl _ _) nq))
        clear d0 d1 d2 d3 d4 HB2
        generalize w2.drewN nq = w3 at *
        obtain ⟨d0, d1, d2, d3, d4⟩ := HB3.out.facts
        go_wp2_with fail
        obtain ⟨U, hU, g, u0, rfl, hgu, hgi⟩ := cls w3
        have xs_0 := fun u => (((HB3.out.blk.to (hgu u)).cell 0).trans (show _ = some (Value.int IntKind.i64 W.ins) from rfl))
        have xs_1 := fun u => (((HB3.out.blk.to (hgu u)).cell 1).trans (show _ = some (Value.int IntKind.i64 W.del) from rfl))
        have xs_2 := fun u => (((HB3.out.blk.to (hgu u)).cell 2).trans (show _ = some (Value.int IntKind.i64 W.chg) from rfl))
        have xs_3 := fun u => (((HB3.out.blk.to (hgu u)).cell 3).trans (show _ = some (Value.int IntKind.i64 W.swp) from rfl))
        have xs_4 := fun u => (((HB3.out.blk.to (hgu u)).cell 4).trans (show _ = some (Value.slice A n c) from rfl))
        have CC : ∀ u, Calls Try.prog 39 #[wval W A n c, .int .u8 (a.toNat : Int), .int .u8 (b.toNat : Int)] (g u) fun e w' => e = .returned (.int .i64 ((Wt.look W.near (a.toNat : Int) (b.toNat : Int)).getD W.chg)) ∧ ∃ u', w' = g u' := fun u => cls_call hgu hgi (fun Wd hb => rchange_any W A n c X a b Wd (HN.out.below (below_to HB3.out.bel (Nat.le_refl _) hb) hX0) (by have := (below_to HB3.out.bel (Nat.le_refl _) hb).size; omega) hn) u
        unfold wval at CC
        clear d0 d1 d2 d3 d4
        refine wp_region_class g (by kernel_rfl) (by kernel_rfl) (hgi _ (hgu _).drew) ?_
        repeat (go_big_quiet_step (with_reducible exact CC _))
        refine wpQuiet_nil ?_
        intro w9 hw9
        obtain ⟨u, rfl⟩ := hw9
        go_wp2_with fail
        refine bodyPost_ret (results_tmp4 rfl _ _ _) rfl ?_
        exact ⟨by rw [HF.out]; rfl, below_to HB3.out.bel (Nat.le_refl _) (hgu u)⟩
      · have he := Classical.not_not.1 he
        have HF := hide (stepR_2n (W := W) (x := x.data.toList) (y := y.data.toList) (i := i) (j := j) (fun hh => hh.2.2 (by rw [at_of ha, at_of hb, he])))
        have e : ((a.toNat : Int) != (b.toNat : Int)) = false := by rw [he]; simp
        clear he ha hb
        go_wp2_with fail
        go_quiet (fail)
        have HB2 := hide (HB1.out.next (below_drewN (Below.refl _ _) nq))
        clear d0 d1 d2 d3 d4 HB1
        generalize w1.drewN nq = w2 at *
        obtain ⟨d0, d1, d2, d3, d4⟩ := HB2.out.facts
        go_wp2_with fail
        go_quiet (fail)
        have HB3 := hide (HB2.out.next (below_drewN (Below.refl _ _) nq))
        clear d0 d1 d2 d3 d4 HB2
        generalize w2.drewN nq = w3 at *
        obtain ⟨d0, d1, d2, d3, d4⟩ := HB3.out.facts
        go_wp2_with fail
        go_quiet (fail)
        have HB4 := hide (HB3.out.next (below_drewN (Below.refl _ _) nq))
        clear d0 d1 d2 d3 d4 HB3
        generalize w3.drewN nq = w4 at *
        obtain ⟨d0, d1, d2, d3, d4⟩ := HB4.out.facts
        go_wp2_with fail
        refine bodyPost_ret (results_tmp4 rfl _ _ _) rfl ?_
        exact ⟨by rw [HF.out]; rfl, HB4.out.bel⟩
    · have g2 : decide ((0 : Int) < (r : Int)) = false := decide_eq_false (by omega)
      have g2' : decide (0 < r) = false := decide_eq_false (by omega)
      have HF := hide (stepR_2n (W := W) (x := x.data.toList) (y := y.data.toList) (i := i) (j := j) (fun hh => by have := hh.2.1; rw [HSY.out] at this; omega))
      clear hr
      go_wp2_with fail
      go_quiet (fail)
      have HB2 := hide (HB1.out.next (below_drewN (Below.refl _ _) nq))
      clear d0 d1 d2 d3 d4 HB1
      generalize w1.drewN nq = w2 at *
      obtain ⟨d0, d1, d2, d3, d4⟩ := HB2.out.facts
      go_wp2_with fail
      go_quiet (fail)
      have HB3 := hide (HB2.out.next (below_drewN (Below.refl _ _) nq))
      clear d0 d1 d2 d3 d4 HB2
      generalize w2.drewN nq = w3 at *
      obtain ⟨d0, d1, d2, d3, d4⟩ := HB3.out.facts
      go_wp2_with fail
      go_quiet (fail)
      have HB4 := hide (HB3.out.next (below_drewN (Below.refl _ _) nq))
      clear d0 d1 d2 d3 d4 HB3
      generalize w3.drewN nq = w4 at *
      obtain ⟨d0, d1, d2, d3, d4⟩ := HB4.out.facts
      go_wp2_with fail
      refine bodyPost_ret (results_tmp4 rfl _ _ _) rfl ?_
      exact ⟨by rw [HF.out]; rfl, HB4.out.bel⟩
  · have g1 : decide ((0 : Int) < (l : Int)) = false := decide_eq_false (by omega)
    have g1' : decide (0 < l) = false := decide_eq_false (by omega)
    have HF := hide (stepR_2n (W := W) (x := x.data.toList) (y := y.data.toList) (i := i) (j := j) (fun hh => by have := hh.1; rw [HSX.out] at this; omega))
    clear hl
    go_wp2_with fail
    go_quiet (fail)
    have HB2 := hide (HB1.out.next (below_drewN (Below.refl _ _) nq))
    clear d0 d1 d2 d3 d4 HB1
    generalize w1.drewN nq = w2 at *
    obtain ⟨d0, d1, d2, d3, d4⟩ := HB2.out.facts
    go_wp2_with fail
    go_quiet (fail)
    have HB3 := hide (HB2.out.next (below_drewN (Below.refl _ _) nq))
    clear d0 d1 d2 d3 d4 HB2
    generalize w2.drewN nq = w3 at *
    obtain ⟨d0, d1, d2, d3, d4⟩ := HB3.out.facts
    go_wp2_with fail
    go_quiet (fail)
    have HB4 := hide (HB3.out.next (below_drewN (Below.refl _ _) nq))
    clear d0 d1 d2 d3 d4 HB3
    generalize w3.drewN nq = w4 at *
    obtain ⟨d0, d1, d2, d3, d4⟩ := HB4.out.facts
    go_wp2_with fail
    refine bodyPost_ret (results_tmp4 rfl _ _ _) rfl ?_
    exact ⟨by rw [HF.out]; rfl, HB4.out.bel⟩
set_option maxRecDepth 100000 in
set_option maxHeartbeats 8000000 in
theorem rstep3_any (W : Wt) (hW : W.valid = true) (A : Option Addr) (n c X : Nat) (x y : ByteArray) (i j : Nat) (w : World) (hN : Near w X A n W.near) (hX0 : X ≤ w.heap.size) (hn : n ≤ 140737488355328) (hi : i ≤ x.size) (hj : j ≤ y.size) (hx : x.size ≤ 120) (hy : y.size ≤ 120) :
    Calls Try.prog 32 #[wval W A n c, .string x, .string y, .int .i64 (i : Int), .int .i64 (j : Int), .int .i64 3] w fun e w' => e = .returned (stepV (stepR W x.data.toList y.data.toList i j 3)) ∧ Below w.heap.size w w' := by
  have HN := hide hN
  have HV := hide hW
  have HB1 := hide (Box.start w W A n c)
  have HSX : Hid (x.data.toList.length = x.size) := by show _ = _; simp
  have HSY : Hid (y.data.toList.length = y.size) := by show _ = _; simp
  obtain ⟨l, hl0⟩ : ∃ l, x.size - i = l := ⟨_, rfl⟩
  obtain ⟨r, hr0⟩ : ∃ r, y.size - j = r := ⟨_, rfl⟩
  have el : (x.size : Int) - (i : Int) = (l : Int) := by omega
  have er : (y.size : Int) - (j : Int) = (r : Int) := by omega
  have k0 : (0 : Int) ≤ (i : Int) := by omega
  have k1 : (0 : Int) ≤ (j : Int) := by omega
  clear hN hW
  go_enter Try.func32, Try.ntmps32
  unfold wval
  go_upto_region 3 with fail
  clear el er
  generalize w.alloc (.cells #[.int .i64 W.ins, .int .i64 W.del, .int .i64 W.chg, .int .i64 W.swp, .slice A n c] 24) = w1 at *
  obtain ⟨d0, d1, d2, d3, d4⟩ := HB1.out.facts
  by_cases hr : 0 < r
  · have g2 : decide ((0 : Int) < (r : Int)) = true := decide_eq_true (by omega)
    have g2' : decide (0 < r) = true := decide_eq_true (by omega)
    have HF := hide (stepR_3y HV.out (x := x.data.toList) (y := y.data.toList) (i := i) (j := j) (by rw [HSY.out]; omega))
    clear hr
    go_wp2_with fail
    go_quiet (fail)
    have HB2 := hide (HB1.out.next (below_drewN (Below.refl _ _) nq))
    clear d0 d1 d2 d3 d4 HB1
    generalize w1.drewN nq = w2 at *
    obtain ⟨d0, d1, d2, d3, d4⟩ := HB2.out.facts
    go_wp2_with fail
    go_quiet (fail)
    have HB3 := hide (HB2.out.next (below_drewN (Below.refl _ _) nq))
    clear d0 d1 d2 d3 d4 HB2
    generalize w2.drewN nq = w3 at *
    obtain ⟨d0, d1, d2, d3, d4⟩ := HB3.out.facts
    go_wp2_with fail
    refine bodyPost_ret (results_tmp4 rfl _ _ _) rfl ?_
    exact ⟨by rw [HF.out]; rfl, HB3.out.bel⟩
  · have g2 : decide ((0 : Int) < (r : Int)) = false := decide_eq_false (by omega)
    have g2' : decide (0 < r) = false := decide_eq_false (by omega)
    have HF := hide (stepR_3n (W := W) (x := x.data.toList) (y := y.data.toList) (i := i) (j := j) (by rw [HSY.out]; omega))
    clear hr
    go_wp2_with fail
    go_quiet (fail)
    have HB2 := hide (HB1.out.next (below_drewN (Below.refl _ _) nq))
    clear d0 d1 d2 d3 d4 HB1
    generalize w1.drewN nq = w2 at *
    obtain ⟨d0, d1, d2, d3, d4⟩ := HB2.out.facts
    go_wp2_with fail
    go_quiet (fail)
    have HB3 := hide (HB2.out.next (below_drewN (Below.refl _ _) nq))
    clear d0 d1 d2 d3 d4 HB2
    generalize w2.drewN nq = w3 at *
    obtain ⟨d0, d1, d2, d3, d4⟩ := HB3.out.facts
    go_wp2_with fail
    go_quiet (fail)
    have HB4 := hide (HB3.out.next (below_drewN (Below.refl _ _) nq))
    clear d0 d1 d2 d3 d4 HB3
    generalize w3.drewN nq = w4 at *
    obtain ⟨d0, d1, d2, d3, d4⟩ := HB4.out.facts
    go_wp2_with fail
    refine bodyPost_ret (results_tmp4 rfl _ _ _) rfl ?_
    exact ⟨by rw [HF.out]; rfl, HB4.out.bel⟩
set_option maxRecDepth 100000 in
set_option maxHeartbeats 8000000 in
theorem rstep4_any (W : Wt) (hW : W.valid = true) (A : Option Addr) (n c X : Nat) (x y : ByteArray) (i j : Nat) (w : World) (hN : Near w X A n W.near) (hX0 : X ≤ w.heap.size) (hn : n ≤ 140737488355328) (hi : i ≤ x.size) (hj : j ≤ y.size) (hx : x.size ≤ 120) (hy : y.size ≤ 120) :
    Calls Try.prog 32 #[wval W A n c, .string x, .string y, .int .i64 (i : Int), .int .i64 (j : Int), .int .i64 4] w fun e w' => e = .returned (stepV (stepR W x.data.toList y.data.toList i j 4)) ∧ Below w.heap.size w w' := by
  have HN := hide hN
  have HV := hide hW
  have HB1 := hide (Box.start w W A n c)
  have HSX : Hid (x.data.toList.length = x.size) := by show _ = _; simp
  have HSY : Hid (y.data.toList.length = y.size) := by show _ = _; simp
  obtain ⟨l, hl0⟩ : ∃ l, x.size - i = l := ⟨_, rfl⟩
  obtain ⟨r, hr0⟩ : ∃ r, y.size - j = r := ⟨_, rfl⟩
  have el : (x.size : Int) - (i : Int) = (l : Int) := by omega
  have er : (y.size : Int) - (j : Int) = (r : Int) := by omega
  have k0 : (0 : Int) ≤ (i : Int) := by omega
  have k1 : (0 : Int) ≤ (j : Int) := by omega
  clear hN hW
  go_enter Try.func32, Try.ntmps32
  unfold wval
  go_upto_region 3 with fail
  clear el er
  generalize w.alloc (.cells #[.int .i64 W.ins, .int .i64 W.del, .int .i64 W.chg, .int .i64 W.swp, .slice A n c] 24) = w1 at *
  obtain ⟨d0, d1, d2, d3, d4⟩ := HB1.out.facts
  by_cases hl : 0 < l
  · have g1 : decide ((0 : Int) < (l : Int)) = true := decide_eq_true (by omega)
    have g1' : decide (0 < l) = true := decide_eq_true (by omega)
    have HF := hide (stepR_4y HV.out (x := x.data.toList) (y := y.data.toList) (i := i) (j := j) (by rw [HSX.out]; omega))
    clear hl
    go_wp2_with fail
    go_quiet (fail)
    have HB2 := hide (HB1.out.next (below_drewN (Below.refl _ _) nq))
    clear d0 d1 d2 d3 d4 HB1
    generalize w1.drewN nq = w2 at *
    obtain ⟨d0, d1, d2, d3, d4⟩ := HB2.out.facts
    go_wp2_with fail
    go_quiet (fail)
    have HB3 := hide (HB2.out.next (below_drewN (Below.refl _ _) nq))
    clear d0 d1 d2 d3 d4 HB2
    generalize w2.drewN nq = w3 at *
    obtain ⟨d0, d1, d2, d3, d4⟩ := HB3.out.facts
    go_wp2_with fail
    refine bodyPost_ret (results_tmp4 rfl _ _ _) rfl ?_
    exact ⟨by rw [HF.out]; rfl, HB3.out.bel⟩
  · have g1 : decide ((0 : Int) < (l : Int)) = false := decide_eq_false (by omega)
    have g1' : decide (0 < l) = false := decide_eq_false (by omega)
    have HF := hide (stepR_4n (W := W) (x := x.data.toList) (y := y.data.toList) (i := i) (j := j) (by rw [HSX.out]; omega))
    clear hl
    go_wp2_with fail
    go_quiet (fail)
    have HB2 := hide (HB1.out.next (below_drewN (Below.refl _ _) nq))
    clear d0 d1 d2 d3 d4 HB1
    generalize w1.drewN nq = w2 at *
    obtain ⟨d0, d1, d2, d3, d4⟩ := HB2.out.facts
    go_wp2_with fail
    go_quiet (fail)
    have HB3 := hide (HB2.out.next (below_drewN (Below.refl _ _) nq))
    clear d0 d1 d2 d3 d4 HB2
    generalize w2.drewN nq = w3 at *
    obtain ⟨d0, d1, d2, d3, d4⟩ := HB3.out.facts
    go_wp2_with fail
    go_quiet (fail)
    have HB4 := hide (HB3.out.next (below_drewN (Below.refl _ _) nq))
    clear d0 d1 d2 d3 d4 HB3
    generalize w3.drewN nq = w4 at *
    obtain ⟨d0, d1, d2, d3, d4⟩ := HB4.out.facts
    go_wp2_with fail
    refine bodyPost_ret (results_tmp4 rfl _ _ _) rfl ?_
    exact ⟨by rw [HF.out]; rfl, HB4.out.bel⟩
set_option maxRecDepth 100000 in
set_option maxHeartbeats 8000000 in
theorem rstep5_any (W : Wt) (hW : W.valid = true) (A : Option Addr) (n c X : Nat) (x y : ByteArray) (i j : Nat) (w : World) (hN : Near w X A n W.near) (hX0 : X ≤ w.heap.size) (hn : n ≤ 140737488355328) (hi : i ≤ x.size) (hj : j ≤ y.size) (hx : x.size ≤ 120) (hy : y.size ≤ 120) :
    Calls Try.prog 32 #[wval W A n c, .string x, .string y, .int .i64 (i : Int), .int .i64 (j : Int), .int .i64 5] w fun e w' => e = .returned (stepV (stepR W x.data.toList y.data.toList i j 5)) ∧ Below w.heap.size w w' := by
  have HN := hide hN
  have HV := hide hW
  have HB1 := hide (Box.start w W A n c)
  have HSX : Hid (x.data.toList.length = x.size) := by show _ = _; simp
  have HSY : Hid (y.data.toList.length = y.size) := by show _ = _; simp
  obtain ⟨l, hl0⟩ : ∃ l, x.size - i = l := ⟨_, rfl⟩
  obtain ⟨r, hr0⟩ : ∃ r, y.size - j = r := ⟨_, rfl⟩
  have el : (x.size : Int) - (i : Int) = (l : Int) := by omega
  have er : (y.size : Int) - (j : Int) = (r : Int) := by omega
  have k0 : (0 : Int) ≤ (i : Int) := by omega
  have k1 : (0 : Int) ≤ (j : Int) := by omega
  clear hN hW
  go_enter Try.func32, Try.ntmps32
  unfold wval
  go_upto_region 3 with fail
  clear el er
  generalize w.alloc (.cells #[.int .i64 W.ins, .int .i64 W.del, .int .i64 W.chg, .int .i64 W.swp, .slice A n c] 24) = w1 at *
  obtain ⟨d0, d1, d2, d3, d4⟩ := HB1.out.facts
  by_cases hl : 1 < l
  · have g1 : decide ((1 : Int) < (l : Int)) = true := decide_eq_true (by omega)
    have g1' : decide (1 < l) = true := decide_eq_true (by omega)
    by_cases hr : 1 < r
    · have g2 : decide ((1 : Int) < (r : Int)) = true := decide_eq_true (by omega)
      have g2' : decide (1 < r) = true := decide_eq_true (by omega)
      obtain ⟨a, ha⟩ : ∃ c, x.data.toList[i]? = some c := ⟨_, List.getElem?_eq_getElem (by rw [HSX.out]; omega)⟩
      have ix := index_ba x _ a ha
      obtain ⟨b, hb⟩ : ∃ c, y.data.toList[j]? = some c := ⟨_, List.getElem?_eq_getElem (by rw [HSY.out]; omega)⟩
      have iy := index_ba y _ b hb
      obtain ⟨a', ha'⟩ : ∃ c, x.data.toList[i + 1]? = some c := ⟨_, List.getElem?_eq_getElem (by rw [HSX.out]; omega)⟩
      have ix1 := index_ba x _ a' ha'
      obtain ⟨b', hb'⟩ : ∃ c, y.data.toList[j + 1]? = some c := ⟨_, List.getElem?_eq_getElem (by rw [HSY.out]; omega)⟩
      have iy1 := index_ba y _ b' hb'
      have e1 : (((i + 1 : Nat)) : Int) = (i : Int) + 1 := by omega
      have e2 : (((j + 1 : Nat)) : Int) = (j : Int) + 1 := by omega
      rw [e1] at ix1
      rw [e2] at iy1
      clear e1 e2
      have k2 : (i : Int) < (x.size : Int) := by omega
      have k3 : (j : Int) < (y.size : Int) := by omega
      have k4 : (i : Int) + 1 < (x.size : Int) := by omega
      have k5 : (j : Int) + 1 < (y.size : Int) := by omega
      have k6 : (0 : Int) ≤ (i : Int) + 1 := by omega
      have k7 : (0 : Int) ≤ (j : Int) + 1 := by omega
      by_cases he : a ≠ a'
      · by_cases hf : a = b'
        · by_cases hg : a' = b
          · have HF := hide (stepR_5y HV.out ha hb ha' hb' he hf hg)
            have e : ((a.toNat : Int) != (a'.toNat : Int)) = true := by rw [bne_iff_ne]; intro h; exact he (UInt8.toNat_inj.1 (by omega))
            have f : ((a.toNat : Int) == (b'.toNat : Int)) = true := by rw [hf]; simp
            have q : ((a'.toNat : Int) == (b.toNat : Int)) = true := by rw [hg]; simp
            clear he hf hg ha hb ha' hb'
            go_wp2_with fail
            go_quiet (fail)
            have HB2 := hide (HB1.out.next (below_drewN (Below.refl _ _) nq))
            clear d0 d1 d2 d3 d4 HB1
            generalize w1.drewN nq = w2 at *
            obtain ⟨d0, d1, d2, d3, d4⟩ := HB2.out.facts
            go_wp2_with fail
            go_quiet (fail)
            have HB3 := hide (HB2.out.next (below_drewN (Below.refl _ _) nq))
            clear d0 d1 d2 d3 d4 HB2
            generalize w2.drewN nq = w3 at *
            obtain ⟨d0, d1, d2, d3, d4⟩ := HB3.out.facts
            go_wp2_with fail
            go_quiet (fail)
            have HB4 := hide (HB3.out.next (below_drewN (Below.refl _ _) nq))
            clear d0 d1 d2 d3 d4 HB3
            generalize w3.drewN nq = w4 at *
            obtain ⟨d0, d1, d2, d3, d4⟩ := HB4.out.facts
            go_wp2_with fail
            refine bodyPost_ret (results_tmp4 rfl _ _ _) rfl ?_
            exact ⟨by rw [HF.out]; rfl, HB4.out.bel⟩
          · have HF := hide (stepR_5n (W := W) (x := x.data.toList) (y := y.data.toList) (i := i) (j := j) (fun hh => hg (UInt8.toNat_inj.1 (by have := hh.2.2.2.2; rw [at_of ha', at_of hb] at this; omega))))
            have e : ((a.toNat : Int) != (a'.toNat : Int)) = true := by rw [bne_iff_ne]; intro h; exact he (UInt8.toNat_inj.1 (by omega))
            have f : ((a.toNat : Int) == (b'.toNat : Int)) = true := by rw [hf]; simp
            have q : ((a'.toNat : Int) == (b.toNat : Int)) = false := by rw [beq_eq_false_iff_ne]; intro h; exact hg (UInt8.toNat_inj.1 (by omega))
            clear he hf hg ha hb ha' hb'
            go_wp2_with fail
            go_quiet (fail)
            have HB2 := hide (HB1.out.next (below_drewN (Below.refl _ _) nq))
            clear d0 d1 d2 d3 d4 HB1
            generalize w1.drewN nq = w2 at *
            obtain ⟨d0, d1, d2, d3, d4⟩ := HB2.out.facts
            go_wp2_with fail
            go_quiet (fail)
            have HB3 := hide (HB2.out.next (below_drewN (Below.refl _ _) nq))
            clear d0 d1 d2 d3 d4 HB2
            generalize w2.drewN nq = w3 at *
            obtain ⟨d0, d1, d2, d3, d4⟩ := HB3.out.facts
            go_wp2_with fail
            go_quiet (fail)
            have HB4 := hide (HB3.out.next (below_drewN (Below.refl _ _) nq))
            clear d0 d1 d2 d3 d4 HB3
            generalize w3.drewN nq = w4 at *
            obtain ⟨d0, d1, d2, d3, d4⟩ := HB4.out.facts
            go_wp2_with fail
            refine bodyPost_ret (results_tmp4 rfl _ _ _) rfl ?_
            exact ⟨by rw [HF.out]; rfl, HB4.out.bel⟩
        · have HF := hide (stepR_5n (W := W) (x := x.data.toList) (y := y.data.toList) (i := i) (j := j) (fun hh => hf (UInt8.toNat_inj.1 (by have := hh.2.2.2.1; rw [at_of ha, at_of hb'] at this; omega))))
          have e : ((a.toNat : Int) != (a'.toNat : Int)) = true := by rw [bne_iff_ne]; intro h; exact he (UInt8.toNat_inj.1 (by omega))
          have f : ((a.toNat : Int) == (b'.toNat : Int)) = false := by rw [beq_eq_false_iff_ne]; intro h; exact hf (UInt8.toNat_inj.1 (by omega))
          clear he hf ha hb ha' hb'
          go_wp2_with fail
          go_quiet (fail)
          have HB2 := hide (HB1.out.next (below_drewN (Below.refl _ _) nq))
          clear d0 d1 d2 d3 d4 HB1
          generalize w1.drewN nq = w2 at *
          obtain ⟨d0, d1, d2, d3, d4⟩ := HB2.out.facts
          go_wp2_with fail
          go_quiet (fail)
          have HB3 := hide (HB2.out.next (below_drewN (Below.refl _ _) nq))
          clear d0 d1 d2 d3 d4 HB2
          generalize w2.drewN nq = w3 at *
          obtain ⟨d0, d1, d2, d3, d4⟩ := HB3.out.facts
          go_wp2_with fail
          go_quiet (fail)
          have HB4 := hide (HB3.out.next (below_drewN (Below.refl _ _) nq))
          clear d0 d1 d2 d3 d4 HB3
          generalize w3.drewN nq = w4 at *
          obtain ⟨d0, d1, d2, d3, d4⟩ := HB4.out.facts
          go_wp2_with fail
          refine bodyPost_ret (results_tmp4 rfl _ _ _) rfl ?_
          exact ⟨by rw [HF.out]; rfl, HB4.out.bel⟩
      · have he := Classical.not_not.1 he
        have HF := hide (stepR_5n (W := W) (x := x.data.toList) (y := y.data.toList) (i := i) (j := j) (fun hh => hh.2.2.1 (by rw [at_of ha, at_of ha', he])))
        have e : ((a.toNat : Int) != (a'.toNat : Int)) = false := by rw [he]; simp
        clear he ha hb ha' hb'
        go_wp2_with fail
        go_quiet (fail)
        have HB2 := hide (HB1.out.next (below_drewN (Below.refl _ _) nq))
        clear d0 d1 d2 d3 d4 HB1
        generalize w1.drewN nq = w2 at *
        obtain ⟨d0, d1, d2, d3, d4⟩ := HB2.out.facts
        go_wp2_with fail
        go_quiet (fail)
        have HB3 := hide (HB2.out.next (below_drewN (Below.refl _ _) nq))
        clear d0 d1 d2 d3 d4 HB2
        generalize w2.drewN nq = w3 at *
        obtain ⟨d0, d1, d2, d3, d4⟩ := HB3.out.facts
        go_wp2_with fail
        go_quiet (fail)
        have HB4 := hide (HB3.out.next (below_drewN (Below.refl _ _) nq))
        clear d0 d1 d2 d3 d4 HB3
        generalize w3.drewN nq = w4 at *
        obtain ⟨d0, d1, d2, d3, d4⟩ := HB4.out.facts
        go_wp2_with fail
        refine bodyPost_ret (results_tmp4 rfl _ _ _) rfl ?_
        exact ⟨by rw [HF.out]; rfl, HB4.out.bel⟩
    · have g2 : decide ((1 : Int) < (r : Int)) = false := decide_eq_false (by omega)
      have g2' : decide (1 < r) = false := decide_eq_false (by omega)
      have HF := hide (stepR_5n (W := W) (x := x.data.toList) (y := y.data.toList) (i := i) (j := j) (fun hh => by have := hh.2.1; rw [HSY.out] at this; omega))
      clear hr
      go_wp2_with fail
      go_quiet (fail)
      have HB2 := hide (HB1.out.next (below_drewN (Below.refl _ _) nq))
      clear d0 d1 d2 d3 d4 HB1
      generalize w1.drewN nq = w2 at *
      obtain ⟨d0, d1, d2, d3, d4⟩ := HB2.out.facts
      go_wp2_with fail
      go_quiet (fail)
      have HB3 := hide (HB2.out.next (below_drewN (Below.refl _ _) nq))
      clear d0 d1 d2 d3 d4 HB2
      generalize w2.drewN nq = w3 at *
      obtain ⟨d0, d1, d2, d3, d4⟩ := HB3.out.facts
      go_wp2_with fail
      go_quiet (fail)
      have HB4 := hide (HB3.out.next (below_drewN (Below.refl _ _) nq))
      clear d0 d1 d2 d3 d4 HB3
      generalize w3.drewN nq = w4 at *
      obtain ⟨d0, d1, d2, d3, d4⟩ := HB4.out.facts
      go_wp2_with fail
      refine bodyPost_ret (results_tmp4 rfl _ _ _) rfl ?_
      exact ⟨by rw [HF.out]; rfl, HB4.out.bel⟩
  · have g1 : decide ((1 : Int) < (l : Int)) = false := decide_eq_false (by omega)
    have g1' : decide (1 < l) = false := decide_eq_false (by omega)
    have HF := hide (stepR_5n (W := W) (x := x.data.toList) (y := y.data.toList) (i := i) (j := j) (fun hh => by have := hh.1; rw [HSX.out] at this; omega))
    clear hl
    go_wp2_with fail
    go_quiet (fail)
    have HB2 := hide (HB1.out.next (below_drewN (Below.refl _ _) nq))
    clear d0 d1 d2 d3 d4 HB1
    generalize w1.drewN nq = w2 at *
    obtain ⟨d0, d1, d2, d3, d4⟩ := HB2.out.facts
    go_wp2_with fail
    go_quiet (fail)
    have HB3 := hide (HB2.out.next (below_drewN (Below.refl _ _) nq))
    clear d0 d1 d2 d3 d4 HB2
    generalize w2.drewN nq = w3 at *
    obtain ⟨d0, d1, d2, d3, d4⟩ := HB3.out.facts
    go_wp2_with fail
    go_quiet (fail)
    have HB4 := hide (HB3.out.next (below_drewN (Below.refl _ _) nq))
    clear d0 d1 d2 d3 d4 HB3
    generalize w3.drewN nq = w4 at *
    obtain ⟨d0, d1, d2, d3, d4⟩ := HB4.out.facts
    go_wp2_with fail
    refine bodyPost_ret (results_tmp4 rfl _ _ _) rfl ?_
    exact ⟨by rw [HF.out]; rfl, HB4.out.bel⟩
set_option maxRecDepth 100000 in
set_option maxHeartbeats 8000000 in
theorem rstep0_any (W : Wt) (hW : W.valid = true) (A : Option Addr) (n c X : Nat) (x y : ByteArray) (i j : Nat) (kind : Int) (hk : ¬ (1 ≤ kind ∧ kind ≤ 5)) (w : World) (hN : Near w X A n W.near) (hX0 : X ≤ w.heap.size) (hn : n ≤ 140737488355328) (hi : i ≤ x.size) (hj : j ≤ y.size) (hx : x.size ≤ 120) (hy : y.size ≤ 120) :
    Calls Try.prog 32 #[wval W A n c, .string x, .string y, .int .i64 (i : Int), .int .i64 (j : Int), .int .i64 kind] w fun e w' => e = .returned (stepV (stepR W x.data.toList y.data.toList i j kind)) ∧ Below w.heap.size w w' := by
  have HN := hide hN
  have HV := hide hW
  have HB1 := hide (Box.start w W A n c)
  have HSX : Hid (x.data.toList.length = x.size) := by show _ = _; simp
  have HSY : Hid (y.data.toList.length = y.size) := by show _ = _; simp
  obtain ⟨l, hl0⟩ : ∃ l, x.size - i = l := ⟨_, rfl⟩
  obtain ⟨r, hr0⟩ : ∃ r, y.size - j = r := ⟨_, rfl⟩
  have el : (x.size : Int) - (i : Int) = (l : Int) := by omega
  have er : (y.size : Int) - (j : Int) = (r : Int) := by omega
  have k0 : (0 : Int) ≤ (i : Int) := by omega
  have k1 : (0 : Int) ≤ (j : Int) := by omega
  clear hN hW
  go_enter Try.func32, Try.ntmps32
  unfold wval
  go_upto_region 3 with fail
  clear el er
  generalize w.alloc (.cells #[.int .i64 W.ins, .int .i64 W.del, .int .i64 W.chg, .int .i64 W.swp, .slice A n c] 24) = w1 at *
  obtain ⟨d0, d1, d2, d3, d4⟩ := HB1.out.facts
  have HF := hide (stepR_no (W := W) (x := x.data.toList) (y := y.data.toList) (i := i) (j := j) hk)
  have b1 : (kind == 1) = false := by rw [beq_eq_false_iff_ne]; intro h; exact hk (by omega)
  have b2 : (kind == 2) = false := by rw [beq_eq_false_iff_ne]; intro h; exact hk (by omega)
  have b3 : (kind == 3) = false := by rw [beq_eq_false_iff_ne]; intro h; exact hk (by omega)
  have b4 : (kind == 4) = false := by rw [beq_eq_false_iff_ne]; intro h; exact hk (by omega)
  have b5 : (kind == 5) = false := by rw [beq_eq_false_iff_ne]; intro h; exact hk (by omega)
  clear hk
  go_wp2_with fail
  go_quiet (fail)
  have HB2 := hide (HB1.out.next (below_drewN (Below.refl _ _) nq))
  clear d0 d1 d2 d3 d4 HB1
  generalize w1.drewN nq = w2 at *
  obtain ⟨d0, d1, d2, d3, d4⟩ := HB2.out.facts
  go_wp2_with fail
  go_quiet (fail)
  have HB3 := hide (HB2.out.next (below_drewN (Below.refl _ _) nq))
  clear d0 d1 d2 d3 d4 HB2
  generalize w2.drewN nq = w3 at *
  obtain ⟨d0, d1, d2, d3, d4⟩ := HB3.out.facts
  go_wp2_with fail
  go_quiet (fail)
  have HB4 := hide (HB3.out.next (below_drewN (Below.refl _ _) nq))
  clear d0 d1 d2 d3 d4 HB3
  generalize w3.drewN nq = w4 at *
  obtain ⟨d0, d1, d2, d3, d4⟩ := HB4.out.facts
  go_wp2_with fail
  refine bodyPost_ret (results_tmp4 rfl _ _ _) rfl ?_
  exact ⟨by rw [HF.out]; rfl, HB4.out.bel⟩
theorem rstep_any (W : Wt) (hW : W.valid = true) (A : Option Addr) (n c X : Nat) (x y : ByteArray) (i j : Nat) (kind : Int) (w : World) (hN : Near w X A n W.near) (hX0 : X ≤ w.heap.size) (hn : n ≤ 140737488355328) (hi : i ≤ x.size) (hj : j ≤ y.size) (hx : x.size ≤ 120) (hy : y.size ≤ 120) :
    Calls Try.prog 32 #[wval W A n c, .string x, .string y, .int .i64 (i : Int), .int .i64 (j : Int), .int .i64 kind] w fun e w' => e = .returned (stepV (stepR W x.data.toList y.data.toList i j kind)) ∧ Below w.heap.size w w' := by
  by_cases hk : 1 ≤ kind ∧ kind ≤ 5
  · have h : kind = 1 ∨ kind = 2 ∨ kind = 3 ∨ kind = 4 ∨ kind = 5 := by omega
    rcases h with rfl | rfl | rfl | rfl | rfl
    · exact rstep1_any W hW A n c X x y i j w hN hX0 hn hi hj hx hy
    · exact rstep2_any W hW A n c X x y i j w hN hX0 hn hi hj hx hy
    · exact rstep3_any W hW A n c X x y i j w hN hX0 hn hi hj hx hy
    · exact rstep4_any W hW A n c X x y i j w hN hX0 hn hi hj hx hy
    · exact rstep5_any W hW A n c X x y i j w hN hX0 hn hi hj hx hy
  · exact rstep0_any W hW A n c X x y i j kind hk w hN hX0 hn hi hj hx hy
end Go.Proofs.Ytnpdhbagfkilkaa

/- The reference of layer 18: Table. -/
set_option linter.unusedVariables false
set_option linter.unusedSimpArgs false
namespace Go.Proofs.Ytnpdhbagfkilkaa
open Go.RowKit

/-- the outer row of a table whose rows from lo on are there -/
def rtop (R : Nat → Nat) (N M lo : Nat) : Array Value := ((List.range N).map fun i => if lo ≤ i then Value.slice (some ⟨R i, 0, none⟩) M M else .slice none 0 0).toArray
theorem rtop_get {R : Nat → Nat} {N M lo i : Nat} (h : i < N) : (rtop R N M lo)[i]? = some (if lo ≤ i then Value.slice (some ⟨R i, 0, none⟩) M M else .slice none 0 0) := by simp [rtop, h]
theorem rtop_made (R : Nat → Nat) (N M : Nat) : madeCells #[Value.slice none 0 0] N = rtop R N M N := by
  rw [slots_made 0 N M]
  unfold slots rtop
  congr 1
  refine List.map_congr_left fun i hi => ?_
  rw [List.mem_range] at hi
  rw [if_neg (by omega), if_neg (by omega)]
theorem rtop_set {R : Nat → Nat} {N M i b : Nat} (h : i < N) : (rtop R N M (i + 1)).setIfInBounds i (.slice (some ⟨b, 0, none⟩) M M) = rtop (fun k => if k = i then b else R k) N M i := by
  apply Array.ext_getElem?
  intro j
  rw [Array.getElem?_setIfInBounds]
  have hs : (rtop R N M (i + 1)).size = N := by simp [rtop]
  by_cases e : i = j
  · subst e
    rw [if_pos rfl, hs, if_pos h, rtop_get h, if_pos (Nat.le_refl _), if_pos rfl]
  · rw [if_neg e]
    by_cases hj : j < N
    · rw [rtop_get hj, rtop_get hj, if_neg (Ne.symm e)]
      by_cases h1 : i + 1 ≤ j
      · rw [if_pos h1, if_pos (by omega)]
      · rw [if_neg h1, if_neg (by omega)]
    · rw [Array.getElem?_eq_none (by simp [rtop]; omega), Array.getElem?_eq_none (by simp [rtop]; omega)]
/-- the reference's table under way: its rows lie anywhere -/
structure TabR (wr w : World) (W : Wt) (A : Option Addr) (n c xs ys : Nat) (R : Nat → Nat) (lo : Nat) (f : Nat → Nat → Int) : Prop where
  box : Box wr w W A n c
  top : Blk wr (w.heap.size + 1) 25 (rtop R (xs + 1) (ys + 1) lo)
  row : ∀ i, lo ≤ i → i ≤ xs → Blk wr (R i) 3 (rowArr (f i) (ys + 1))
  hT : ∀ i, lo ≤ i → i ≤ xs → w.heap.size + 1 < R i
  hD : ∀ i i', lo ≤ i → i < i' → i' ≤ xs → R i ≠ R i'
section
variable {wr w w' : World} {W : Wt} {A : Option Addr} {n c xs ys lo : Nat} {R : Nat → Nat} {f : Nat → Nat → Int}
theorem TabR.to (h : TabR wr w W A n c xs ys R lo f) (hb : Below wr.heap.size wr w') : TabR w' w W A n c xs ys R lo f :=
  ⟨h.box.next hb, h.top.to hb, fun i h1 h2 => (h.row i h1 h2).to hb, h.hT, h.hD⟩
theorem TabR.slot (h : TabR wr w W A n c xs ys R lo f) {i : Nat} (h1 : lo ≤ i) (h2 : i ≤ xs) : wr.cell? ⟨w.heap.size + 1, i, none⟩ = some (.slice (some ⟨R i, 0, none⟩) (ys + 1) (ys + 1)) := by
  rw [h.top.cell, rtop_get (by omega), if_pos h1]
theorem TabR.cell (h : TabR wr w W A n c xs ys R lo f) {i j : Nat} (h1 : lo ≤ i) (h2 : i ≤ xs) (hj : j ≤ ys) : wr.cell? ⟨R i, j, none⟩ = some (.int .i64 (f i j)) := by
  rw [(h.row i h1 h2).cell, rowArr_get _ (by omega)]
theorem TabR.new {i : Nat} (h : TabR wr w W A n c xs ys R (i + 1) f) (hi : i ≤ xs) :
    TabR ((wr.setCell ⟨w.heap.size + 1, i, none⟩ (.slice (some ⟨wr.heap.size, 0, none⟩) (ys + 1) (ys + 1))).alloc (.cells (madeCells #[.int .i64 0] (ys + 1)) 3)) w W A n c xs ys (fun k => if k = i then wr.heap.size else R k) i (fun k j => if k = i then 0 else f k j) := by
  have hTl : w.heap.size + 1 < wr.heap.size := h.top.lt
  have hlt : ∀ k, i + 1 ≤ k → k ≤ xs → R k < wr.heap.size := fun k a b => (h.row k a b).lt
  have hsz : (wr.setCell ⟨w.heap.size + 1, i, none⟩ (.slice (some ⟨wr.heap.size, 0, none⟩) (ys + 1) (ys + 1))).heap.size = wr.heap.size := World.size_setCell ..
  refine ⟨⟨(h.box.blk.far (p := ⟨w.heap.size + 1, i, none⟩) (by show w.heap.size ≠ w.heap.size + 1; omega) _).alloc _, (h.box.bel.setCell (p := ⟨w.heap.size + 1, i, none⟩) (by show w.heap.size ≤ w.heap.size + 1; omega) _).alloc (by rw [hsz]; omega) _⟩, ?_, fun k a b => ?_, fun k a b => ?_, fun k k' a b d => ?_⟩
  · rw [← rtop_set (by omega)]
    exact (h.top.set_ i _).alloc _
  · by_cases e : k = i
    · rw [if_pos e]
      have e2 : (fun j => if k = i then (0 : Int) else f k j) = fun _ => 0 := by funext j; rw [if_pos e]
      rw [e2, ← rowArr_made]
      have := Blk.new (wr.setCell ⟨w.heap.size + 1, i, none⟩ (.slice (some ⟨wr.heap.size, 0, none⟩) (ys + 1) (ys + 1))) 3 (madeCells #[.int .i64 0] (ys + 1))
      rwa [hsz] at this
    · rw [if_neg e]
      have e2 : (fun j => if k = i then (0 : Int) else f k j) = f k := by funext j; rw [if_neg e]
      rw [e2]
      exact ((h.row k (by omega) b).far (p := ⟨w.heap.size + 1, i, none⟩) (by show R k ≠ w.heap.size + 1; have := h.hT k (by omega) b; omega) _).alloc _
  · by_cases e : k = i
    · simp only [e, if_true]; exact hTl
    · simp only [e, if_false]; exact h.hT k (by omega) b
  · have e' : ¬ k' = i := by omega
    by_cases e : k = i
    · simp only [e, e', if_true, if_false]; have := hlt k' (by omega) d; omega
    · simp only [e, e', if_false]; exact h.hD k k' (by omega) b d
theorem TabR.put (h : TabR wr w W A n c xs ys R lo f) {i j : Nat} (h1 : lo ≤ i) (h2 : i ≤ xs) (v : Int) :
    TabR (wr.setCell ⟨R i, j, none⟩ (.int .i64 v)) w W A n c xs ys R lo (fun p q => if p = i ∧ q = j then v else f p q) := by
  have hT := h.hT i h1 h2
  refine ⟨⟨h.box.blk.far (p := ⟨R i, j, none⟩) (by show w.heap.size ≠ R i; omega) _, h.box.bel.setCell (p := ⟨R i, j, none⟩) (by show w.heap.size ≤ R i; omega) _⟩, h.top.far (p := ⟨R i, j, none⟩) (by show w.heap.size + 1 ≠ R i; omega) _, fun k a b => ?_, h.hT, h.hD⟩
  by_cases e : k = i
  · subst e
    have := (h.row k a b).set_ j (.int .i64 v)
    rw [rowArr_set] at this
    have e2 : (fun q => if k = k ∧ q = j then v else f k q) = fun q => if q = j then v else f k q := by funext q; simp
    rw [e2]; exact this
  · have e2 : (fun q => if k = i ∧ q = j then v else f k q) = f k := by funext q; simp [e]
    rw [e2]
    refine (h.row k a b).far (p := ⟨R i, j, none⟩) ?_ _
    show R k ≠ R i
    rcases Nat.lt_or_ge k i with h3 | h3
    · exact h.hD k i a h3 h2
    · exact Ne.symm (h.hD i k h1 (by omega) b)
end
/-- the rows from q on, and of the row before those from p on, are done -/
def FT (wr w : World) (W : Wt) (A : Option Addr) (n c : Nat) (x y : ByteArray) (D : Nat → Nat → Int) (lo q p : Nat) : Prop :=
  ∃ R f, TabR wr w W A n c x.size y.size R lo f ∧ ∀ i j, i ≤ x.size → j ≤ y.size → lo ≤ i → (q ≤ i ∨ (i + 1 = q ∧ p ≤ j)) → f i j = D i j
section
variable {wr w w' : World} {W : Wt} {A : Option Addr} {n c lo q p : Nat} {x y : ByteArray} {D : Nat → Nat → Int}
theorem FT.to (h : FT wr w W A n c x y D lo q p) (hb : Below wr.heap.size wr w') : FT w' w W A n c x y D lo q p := by
  obtain ⟨R, f, h1, h2⟩ := h
  exact ⟨R, f, h1.to hb, h2⟩
theorem FT.box (h : FT wr w W A n c x y D lo q p) : Box wr w W A n c := by
  obtain ⟨R, f, h1, h2⟩ := h
  exact h1.box
theorem FT.cells (h : FT wr w W A n c x y D lo q p) {i j : Nat} (hl : lo ≤ i) (hi : i ≤ x.size) (hj : j ≤ y.size) (hq : q ≤ i ∨ (i + 1 = q ∧ p ≤ j)) :
    ∃ b, wr.cell? ⟨w.heap.size + 1, i, none⟩ = some (.slice (some ⟨b, 0, none⟩) (y.size + 1) (y.size + 1)) ∧ wr.cell? ⟨b, j, none⟩ = some (.int .i64 (D i j)) := by
  obtain ⟨R, f, h1, h2⟩ := h
  exact ⟨R i, h1.slot hl hi, by rw [h1.cell hl hi hj, h2 i j hi hj hl hq]⟩
theorem FT.put {i j : Nat} (h : FT wr w W A n c x y D i (i + 1) (j + 1)) (hi : i ≤ x.size) (hj : j ≤ y.size) {v : Int} (hv : v = D i j) :
    ∃ b, wr.cell? ⟨w.heap.size + 1, i, none⟩ = some (.slice (some ⟨b, 0, none⟩) (y.size + 1) (y.size + 1)) ∧ (∃ u, wr.cell? ⟨b, j, none⟩ = some (.int .i64 u)) ∧ wr.frozen? ⟨b, j, none⟩ = false ∧ FT (wr.setCell ⟨b, j, none⟩ (.int .i64 v)) w W A n c x y D i (i + 1) j := by
  obtain ⟨R, f, h1, h2⟩ := h
  refine ⟨R i, h1.slot (Nat.le_refl _) hi, ⟨_, h1.cell (Nat.le_refl _) hi hj⟩, (h1.row i (Nat.le_refl _) hi).frozen _, R, _, h1.put (Nat.le_refl _) hi v, fun i' j' a b d e => ?_⟩
  by_cases e' : i' = i ∧ j' = j
  · rw [if_pos e', e'.1, e'.2]; exact hv
  · rw [if_neg e']; exact h2 i' j' a b d (by omega)
theorem FT.row {i : Nat} (h : FT wr w W A n c x y D i (i + 1) 0) : FT wr w W A n c x y D i i (y.size + 1) := by
  obtain ⟨R, f, h1, h2⟩ := h
  exact ⟨R, f, h1, fun i' j' a b d e => h2 i' j' a b d (by omega)⟩
theorem FT.new {i : Nat} (h : FT wr w W A n c x y D (i + 1) (i + 1) (y.size + 1)) (hi : i ≤ x.size) :
    (∃ u, wr.cell? ⟨w.heap.size + 1, i, none⟩ = some u) ∧ wr.frozen? ⟨w.heap.size + 1, i, none⟩ = false ∧ w.heap.size + 1 < wr.heap.size ∧
    FT ((wr.setCell ⟨w.heap.size + 1, i, none⟩ (.slice (some ⟨wr.heap.size, 0, none⟩) (y.size + 1) (y.size + 1))).alloc (.cells (madeCells #[.int .i64 0] (y.size + 1)) 3)) w W A n c x y D i (i + 1) (y.size + 1) := by
  obtain ⟨R, f, h1, h2⟩ := h
  refine ⟨⟨_, by rw [h1.top.cell, rtop_get (by omega)]⟩, h1.top.frozen _, h1.top.lt, _, _, h1.new hi, fun i' j' a b d e => ?_⟩
  rw [if_neg (by omega)]
  exact h2 i' j' a b (by omega) (by omega)
end
theorem best_bounds {W : Wt} (hW : W.valid = true) {x y : ByteArray} {D : Nat → Nat → Int} (hD : W.IsDist x.data.toList y.data.toList D) {i j : Nat} (hi : i ≤ x.size) (hj : j ≤ y.size) : ∀ k, k ≤ 6 → -1 ≤ bestOf W x y D i j k ∧ bestOf W x y D i j k ≤ 1001000
  | 0, _ => by rw [bestOf_zero]; omega
  | k + 1, hk => by
    have ih := best_bounds hW hD hi hj k (by omega)
    have hl : k < (W.steps x.data.toList y.data.toList i j).length := by rw [steps_length]; omega
    rw [bestOf_succ (List.getElem?_eq_getElem hl)]
    have hf := Wt.steps_fit hW (x := x.data.toList) (y := y.data.toList) (i := i) (j := j) (by simpa using hi) (by simpa using hj) _ (List.getElem_mem hl)
    generalize (W.steps x.data.toList y.data.toList i j)[k] = s at *
    unfold Wt.bestStep
    by_cases hn : s.1 < 0
    · rw [if_pos hn]; exact ih
    · rw [if_neg hn]
      have hf2 : s.1 ≤ 1000 ∧ 0 ≤ s.2.1 ∧ 0 ≤ s.2.2 ∧ 0 < s.2.1 + s.2.2 ∧ i + s.2.1 ≤ x.size ∧ j + s.2.2 ≤ y.size := by simpa using hf.resolve_left hn
      have q1 := hD.lo (i + s.2.1.toNat) (j + s.2.2.toNat)
      have q2 := hD.hi (i + s.2.1.toNat) (j + s.2.2.toNat) (by simp; omega) (by simp; omega)
      unfold Wt.better
      split <;> omega
theorem steps_at {W : Wt} {x y : List UInt8} {i j k : Nat} (hk : k < 6) : (W.steps x y i j)[k]? = some (Wt.stp W x y i j k) := by
  have hl : k < (W.steps x y i j).length := hk
  rw [List.getElem?_eq_getElem hl]
  unfold Wt.stp
  rw [List.getElem?_eq_getElem hl]; rfl
theorem ft_j {wr w : World} {W : Wt} {A : Option Addr} {n c i j : Nat} {x y : ByteArray} {D : Nat → Nat → Int} (hj : j ≤ y.size) (h : FT wr w W A n c x y D i (i + 1) j) : (∃ j' : Nat, j' ≤ y.size ∧ Value.int .i64 ((j : Int) - 1) = .int .i64 (j' : Int) ∧ FT wr w W A n c x y D i (i + 1) (j' + 1)) ∨ (Value.int .i64 ((j : Int) - 1) = .int .i64 (-1) ∧ FT wr w W A n c x y D i (i + 1) 0) := by
  cases j with
  | zero => exact .inr ⟨vint (by omega), h⟩
  | succ j => exact .inl ⟨j, by omega, vint (by omega), h⟩
theorem ft_i {wr w : World} {W : Wt} {A : Option Addr} {n c i : Nat} {x y : ByteArray} {D : Nat → Nat → Int} (hi : i ≤ x.size) (h : FT wr w W A n c x y D i i (y.size + 1)) : (∃ i' : Nat, i' ≤ x.size ∧ Value.int .i64 ((i : Int) - 1) = .int .i64 (i' : Int) ∧ FT wr w W A n c x y D (i' + 1) (i' + 1) (y.size + 1)) ∨ (Value.int .i64 ((i : Int) - 1) = .int .i64 (-1) ∧ FT wr w W A n c x y D 0 0 (y.size + 1)) := by
  cases i with
  | zero => exact .inr ⟨vint (by omega), h⟩
  | succ i => exact .inl ⟨i, by omega, vint (by omega), h⟩
set_option maxRecDepth 100000 in
set_option maxHeartbeats 8000000 in
theorem rtable_any (W : Wt) (hW : W.valid = true) (A : Option Addr) (n c X : Nat) (x y : ByteArray) (w : World) (hN : Near w X A n W.near) (hX0 : X ≤ w.heap.size) (hn : n ≤ 140737488355328) (hx : x.size ≤ 120) (hy : y.size ≤ 120) (D : Nat → Nat → Int) (hD : W.IsDist x.data.toList y.data.toList D) :
    Calls Try.prog 30 #[wval W A n c, .string x, .string y] w fun e w' => e = .returned (.slice (some ⟨w.heap.size + 1, 0, none⟩) (x.size + 1) (x.size + 1)) ∧ FT w' w W A n c x y D 0 0 (y.size + 1) := by
  have HN := hide hN
  have HW := hide hW
  have HD := hide hD
  have HB := hide (Box.start w W A n c)
  have hmk := fun w => run_make_any (P := Try.prog) Try.underlying46 info_ints rfl (N := (x.size : Int) + 1) (n := x.size + 1) (by omega) (by omega) (by omega) w
  have hmr := fun w => run_make_any (P := Try.prog) Try.underlying25 info_int rfl (N := (y.size : Int) + 1) (n := y.size + 1) (by omega) (by omega) (by omega) w
  clear hN hW hD
  go_enter Try.func30, Try.ntmps30
  unfold wval
  go_upto_region 1 with fail
  have hsz1 : (w.alloc (.cells #[.int .i64 W.ins, .int .i64 W.del, .int .i64 W.chg, .int .i64 W.swp, .slice A n c] 24)).heap.size = w.heap.size + 1 := by simp
  generalize w.alloc (.cells #[.int .i64 W.ins, .int .i64 W.del, .int .i64 W.chg, .int .i64 W.swp, .slice A n c] 24) = w1 at *
  have HF0 : Hid (FT (w1.alloc (.cells (madeCells #[.slice none 0 0] (x.size + 1)) 25)) w W A n c x y D (x.size + 1) (x.size + 1) (y.size + 1)) := by
    refine ⟨fun _ => 0, fun _ _ => 0, ⟨HB.out.next (below_one8 _ _), ?_, fun i h1 h2 => by omega, fun i h1 h2 => by omega, fun i i' h1 h2 h3 => by omega⟩, fun i j h1 h2 h3 h4 => by omega⟩
    rw [← rtop_made, ← hsz1]
    exact Blk.new _ _ _
  have HS1 := hide hsz1
  go_upto_region 2 with fail
  clear hmk hsz1 HB
  generalize w1.alloc (.cells (madeCells #[.slice none 0 0] (x.size + 1)) 25) = w2 at *
  go_wp2_with fail
  go_loopw [8] (fun t8 wr => (∃ i : Nat, i ≤ x.size ∧ t8 = .int .i64 (i : Int) ∧ FT wr w W A n c x y D (i + 1) (i + 1) (y.size + 1)) ∨ (t8 = .int .i64 (-1) ∧ FT wr w W A n c x y D 0 0 (y.size + 1))) (fun t8 _ => (intOf t8 + 1).toNat)
  case atStart => exact .inl ⟨x.size, Nat.le_refl _, rfl, HF0.out⟩
  case round =>
    clear HF0
    rcases hrel with ⟨i, hi, rfl, hF⟩ | ⟨rfl, hF⟩
    · obtain ⟨⟨u, cu⟩, fu, hlt, hnew⟩ := hF.new hi
      have HNW := hide hnew
      have hz1 : w.heap.size + 1 ≠ wr.heap.size := by omega
      have g1 : decide ((0 : Int) ≤ (i : Int)) = true := decide_eq_true (by omega)
      have k0 : (0 : Int) ≤ (i : Int) := by omega
      have k1 : (i : Int) < (x.size : Int) + 1 := by omega
      clear hF hnew
      go_upto_region 6 with fail
      clear cu fu hlt hz1
      generalize (wr.setCell ⟨w.heap.size + 1, i, none⟩ (.slice (some ⟨wr.heap.size, 0, none⟩) (y.size + 1) (y.size + 1))).alloc (.cells (madeCells #[.int .i64 0] (y.size + 1)) 3) = w4 at *
      go_wp2_with fail
      go_loopw [9] (fun t9 wr => (∃ j : Nat, j ≤ y.size ∧ t9 = .int .i64 (j : Int) ∧ FT wr w W A n c x y D i (i + 1) (j + 1)) ∨ (t9 = .int .i64 (-1) ∧ FT wr w W A n c x y D i (i + 1) 0)) (fun t9 _ => (intOf t9 + 1).toNat)
      case atStart => exact .inl ⟨y.size, Nat.le_refl _, rfl, HNW.out⟩
      case round =>
        clear HNW
        rcases hrel with ⟨j, hj, rfl, hF⟩ | ⟨rfl, hF⟩
        · have HF := hide hF
          have h1 : decide ((0 : Int) ≤ (j : Int)) = true := decide_eq_true (by omega)
          clear hF
          go_wp2_with fail
          go_loopw [10, 11] (fun t10 t11 wr => ∃ (k : Nat) (b : Int), (1 ≤ k ∧ k ≤ 6) ∧ t11 = .int .i64 (k : Int) ∧ t10 = .int .i64 b ∧ b = bestOf W x y D i j k ∧ FT wr w W A n c x y D i (i + 1) (j + 1)) (fun _ t11 _ => 6 - (intOf t11).toNat)
          case atStart => exact ⟨1, -1, by omega, rfl, rfl, rfl, HF.out⟩
          case round =>
            clear HF
            obtain ⟨k, b, hk, rfl, rfl, hb, hF⟩ := hrel
            have HR := hide hF
            have hbb := best_bounds HW.out HD.out hi hj k hk.2
            rw [← hb] at hbb
            have Hb := hide hb
            obtain ⟨d0, d1, d2, d3, d4⟩ := hF.box.facts
            clear hb hF
            by_cases hk6 : k < 6
            · have t1 : decide ((k : Int) ≤ (5 : Int)) = true := decide_eq_true (by omega)
              have HSR : Hid (stepR W x.data.toList y.data.toList i j (k : Int) = if (Wt.stp W x.data.toList y.data.toList i j k).1 < 0 then (0, 0, 0, false) else ((Wt.stp W x.data.toList y.data.toList i j k).1, (Wt.stp W x.data.toList y.data.toList i j k).2.1, (Wt.stp W x.data.toList y.data.toList i j k).2.2, true)) := stepR_k hk.1 (by omega) rfl
              have HBS := hide (bestOf_succ (D := D) (steps_at (W := W) (x := x.data.toList) (y := y.data.toList) (i := i) (j := j) hk6))
              have hfit := Wt.stp_fits HW.out (x := x.data.toList) (y := y.data.toList) (i := i) (j := j) (by simpa using hi) (by simpa using hj) hk6
              generalize Wt.stp W x.data.toList y.data.toList i j k = s at *
              obtain ⟨sc, sa, sb⟩ := s
              by_cases hneg : sc < 0
              · have HV : Hid (stepR W x.data.toList y.data.toList i j (k : Int) = (0, 0, 0, false)) := by show _ = _; rw [HSR.out, if_pos hneg]
                have HB2 : Hid (bestOf W x y D i j (k + 1) = b) := by show _ = _; rw [HBS.out, ← Hb.out]; unfold Wt.bestStep; rw [if_pos hneg]
                clear hfit hneg
                go_wp2_with fail
                refine (rstep_any W HW.out A n c X x y i j (k : Int) wr (HN.out.below HR.out.box.bel hX0) (by have := HR.out.box.bel.size; omega) hn hi hj hx hy).mono ?_
                rintro e w1 ⟨rfl, hb1⟩
                have HF1 := hide (HR.out.to hb1)
                clear hb1 HR d0 d1 d2 d3 d4
                rw [HV.out]
                unfold stepV
                go_wp2_with fail
                go_roundw
                case rel => exact ⟨k + 1, b, by omega, by go_num, rfl, HB2.out.symm, HF1.out⟩
                case measure => simp [intOf] <;> omega
              · have hf : sc ≤ 1000 ∧ 0 ≤ sa ∧ 0 ≤ sb ∧ 0 < sa + sb ∧ i + sa ≤ x.size ∧ j + sb ≤ y.size := by simpa using hfit.resolve_left hneg
                obtain ⟨f1, f2, f3, f4, f5, f6⟩ := hf
                obtain ⟨na, rfl⟩ := Int.eq_ofNat_of_zero_le f2
                obtain ⟨nb, rfl⟩ := Int.eq_ofNat_of_zero_le f3
                have hi2 : i + na ≤ x.size := by omega
                have hj2 : j + nb ≤ y.size := by omega
                have q1 := HD.out.lo (i + na) (j + nb)
                have q2 := HD.out.hi (i + na) (j + nb) (by simpa using hi2) (by simpa using hj2)
                have HV : Hid (stepR W x.data.toList y.data.toList i j (k : Int) = (sc, (na : Int), (nb : Int), true)) := by show _ = _; rw [HSR.out, if_neg hneg]
                have HB1 : Hid (bestOf W x y D i j (k + 1) = Wt.better b (sc + D (i + na) (j + nb))) := by show _ = _; rw [HBS.out, ← Hb.out]; unfold Wt.bestStep; rw [if_neg hneg]; rfl
                have hsc0 : 0 ≤ sc := by omega
                clear hfit hneg HSR HBS
                go_wp2_with fail
                refine (rstep_any W HW.out A n c X x y i j (k : Int) wr (HN.out.below HR.out.box.bel hX0) (by have := HR.out.box.bel.size; omega) hn hi hj hx hy).mono ?_
                rintro e w1 ⟨rfl, hb1⟩
                have HF1 := hide (HR.out.to hb1)
                clear hb1 HR d0 d1 d2 d3 d4
                rw [HV.out]
                unfold stepV
                obtain ⟨bR, p1, p2⟩ := HF1.out.cells (i := i + na) (j := j + nb) (by omega) hi2 hj2 (by omega)
                obtain ⟨iz, hiz⟩ : ∃ z, i + na = z := ⟨_, rfl⟩
                obtain ⟨jz, hjz⟩ : ∃ z, j + nb = z := ⟨_, rfl⟩
                have ei : (i : Int) + (na : Int) = (iz : Int) := by omega
                have ej : (j : Int) + (nb : Int) = (jz : Int) := by omega
                rw [hiz] at p1 p2 HB1 q1 q2
                rw [hjz] at p2 HB1 q1 q2
                rw [hiz] at hi2
                rw [hjz] at hj2
                have HIZ := hide hiz
                have HJZ := hide hjz
                clear hiz hjz
                have s1 : (0 : Int) ≤ (iz : Int) := by omega
                have s2 : (iz : Int) < (x.size : Int) + 1 := by omega
                have s3 : (0 : Int) ≤ (jz : Int) := by omega
                have s4 : (jz : Int) < (y.size : Int) + 1 := by omega
                generalize D iz jz = dv at *
                have s9 : -9223372036854775808 ≤ sc + dv ∧ sc + dv ≤ 9223372036854775807 := by omega
                by_cases t1 : b < 0
                · have g2 : decide (b < (0 : Int)) = true := decide_eq_true t1
                  have HS2 : Hid (bestOf W x y D i j (k + 1) = sc + dv) := by show _ = _; rw [HB1.out]; unfold Wt.better; rw [if_pos (.inl t1)]
                  clear t1
                  go_wp2_with fail
                  go_roundw
                  case rel => exact ⟨k + 1, sc + dv, by omega, by go_num, rfl, HS2.out.symm, HF1.out⟩
                  case measure => simp [intOf] <;> omega
                · have g2 : decide (b < (0 : Int)) = false := decide_eq_false t1
                  by_cases t2 : sc + dv < b
                  · have g3 : decide (sc + dv < b) = true := decide_eq_true t2
                    have HS2 : Hid (bestOf W x y D i j (k + 1) = sc + dv) := by show _ = _; rw [HB1.out]; unfold Wt.better; rw [if_pos (.inr t2)]
                    clear t1 t2
                    go_wp2_with fail
                    go_roundw
                    case rel => exact ⟨k + 1, sc + dv, by omega, by go_num, rfl, HS2.out.symm, HF1.out⟩
                    case measure => simp [intOf] <;> omega
                  · have g3 : decide (sc + dv < b) = false := decide_eq_false t2
                    have HS2 : Hid (bestOf W x y D i j (k + 1) = b) := by show _ = _; rw [HB1.out]; unfold Wt.better; rw [if_neg (by omega)]
                    clear t1 t2
                    go_wp2_with fail
                    go_roundw
                    case rel => exact ⟨k + 1, b, by omega, by go_num, rfl, HS2.out.symm, HF1.out⟩
                    case measure => simp [intOf] <;> omega
            · obtain rfl : k = 6 := by omega
              have t1 : decide (((6 : Nat) : Int) ≤ (5 : Int)) = false := by decide
              have HM := hide (bestOf_six HD.out hi hj)
              rw [← Hb.out] at HM
              clear d0 d1 d2 d3 d4
              by_cases t2 : b < 0
              · have g2 : decide (b < (0 : Int)) = true := decide_eq_true t2
                have HZ : Hid ((0 : Int) = D i j) := by show _ = _; rw [← HM.out]; omega
                obtain ⟨bR, p1, ⟨u, p2⟩, p3, hput⟩ := HR.out.put hi hj HZ.out
                have HP := hide hput
                have s1 : (0 : Int) ≤ (i : Int) := by omega
                have s2 : (i : Int) < (x.size : Int) + 1 := by omega
                have s3 : (0 : Int) ≤ (j : Int) := by omega
                have s4 : (j : Int) < (y.size : Int) + 1 := by omega
                clear hput t2 HR
                go_wp2_with fail
                clear p1 p2 p3
                generalize wr.setCell ⟨bR, j, none⟩ (.int .i64 0) = w7 at *
                go_roundw
                case rel => exact ft_j hj HP.out
                case measure => simp [intOf] <;> omega
              · have g2 : decide (b < (0 : Int)) = false := decide_eq_false t2
                have HZ : Hid (b = D i j) := by show _ = _; rw [← HM.out]; omega
                obtain ⟨bR, p1, ⟨u, p2⟩, p3, hput⟩ := HR.out.put hi hj HZ.out
                have HP := hide hput
                have s1 : (0 : Int) ≤ (i : Int) := by omega
                have s2 : (i : Int) < (x.size : Int) + 1 := by omega
                have s3 : (0 : Int) ≤ (j : Int) := by omega
                have s4 : (j : Int) < (y.size : Int) + 1 := by omega
                clear hput t2 HR HZ
                go_wp2_with fail
                clear p1 p2 p3
                generalize wr.setCell ⟨bR, j, none⟩ (.int .i64 b) = w7 at *
                go_roundw
                case rel => exact ft_j hj HP.out
                case measure => simp [intOf] <;> omega
        · have HF := hide hF.row
          have h1 : decide ((0 : Int) ≤ (-1 : Int)) = false := by decide
          clear hF
          go_wp2_with fail
          go_roundw
          case rel => exact ft_i hi HF.out
          case measure => simp [intOf] <;> omega
    · have HF := hide hF
      have h1 : decide ((0 : Int) ≤ (-1 : Int)) = false := by decide
      clear hF
      go_wp2_with fail
      go_ret
      exact ⟨rfl, HF.out⟩
end Go.Proofs.Ytnpdhbagfkilkaa

/- Walks: edit.Check. -/
set_option linter.unusedVariables false
set_option linter.unusedSimpArgs false
namespace Go.Proofs.Ytnpdhbagfkilkaa
open Go.RowKit

structure CkRel (wr w : World) (W : Wt) (A : Option Addr) (n c g m : Nat) (x y : ByteArray) (l : List Int) (ne : Nat) (t11 t12 t13 t36 : Value) (k i j : Nat) (sum : Int) : Prop where
  v11 : t11 = .int .i64 i
  v12 : t12 = .int .i64 j
  v13 : t13 = .int .i64 sum
  v36 : t36 = .int .i64 k
  hk : k ≤ ne
  hi : i ≤ x.size
  hj : j ≤ y.size
  lo : 0 ≤ sum
  hi2 : sum ≤ 1000 * ((i : Int) + j)
  ck : Wt.checkF W x.data.toList y.data.toList (l.drop k) i j sum = Wt.check W x.data.toList y.data.toList l
  box : Box wr w W A n c
  ed : Ed wr g m W A n c x y
  hg : w.heap.size < g
  hm : w.heap.size < m
def CkR (wr w : World) (W : Wt) (A : Option Addr) (n c g m : Nat) (x y : ByteArray) (l : List Int) (ne : Nat) (t11 t12 t13 t36 : Value) : Prop :=
  ∃ k i j sum, CkRel wr w W A n c g m x y l ne t11 t12 t13 t36 k i j sum

theorem stp_list {W : Wt} {x y : List UInt8} {i j k : Nat} (h : k < 6) {s : Int × Int × Int} (e : Wt.stp W x y i j k = s) : (W.steps x y i j)[k]? = some s := by rw [← e]; exact Wt.stp_get h
theorem ret_nb {a b : Int} {c d : Bool} (h1 : a = b) (h2 : c = d) : Ending.returned (.tuple #[.int .i64 a, .bool c]) = .returned (.tuple #[.int .i64 b, .bool d]) := by rw [h1, h2]

set_option maxHeartbeats 1000000 in
set_option maxRecDepth 100000 in
theorem check_any (W : Wt) (A : Option Addr) (n c X : Nat) (x y : ByteArray) (E : Option Addr) (ne ce : Nat) (l : List Int) (w : World) (hN : Near w X A n W.near) (hX : X ≤ w.heap.size) (hn : n ≤ 140737488355328) (hx : x.size ≤ maxLen) (hy : y.size ≤ maxLen)
    (hE : Ints w X E ne l) (hne : ne ≤ 140737488355328) :
    Calls Try.prog 18 #[wval W A n c, .string x, .string y, .slice E ne ce] w fun e w' => e = .returned (.tuple #[.int .i64 ((Wt.check W x.data.toList y.data.toList l).getD 0), .bool (Wt.check W x.data.toList y.data.toList l).isSome]) ∧ Below w.heap.size w w' := by
  have HN := hide hN
  have HE := hide hE
  have HB := hide (Box.start w W A n c)
  clear hN hE
  cases hv : W.valid
  · have HF : Hid (Wt.check W x.data.toList y.data.toList l = none) := by show _ = _; simp [Wt.check, ok3, hv]
    go_enter Try.func18, Try.ntmps18
    unfold wval
    go_wp2_with (go_at_call 20; rw [← wval_eq]; refine (valid_try W A n c X _ (by exact HN.out.below HB.out.bel hX) (by simp; omega) hn).mono ?_; rintro e w1 ⟨rfl, hb⟩; have HT := hide (HB.out.next hb); clear HB hb; have HB := HT; clear HT)
    go_ret2
    exact ⟨ret_nb (by rw [HF.out]; rfl) (by rw [HF.out]; rfl), HB.out.bel⟩
  cases hxt : okText x.data.toList
  · have HF : Hid (Wt.check W x.data.toList y.data.toList l = none) := by show _ = _; simp [Wt.check, ok3, hxt]
    go_enter Try.func18, Try.ntmps18
    unfold wval
    go_wp2_with (first
      | (go_at_call 20; rw [← wval_eq]; refine (valid_try W A n c X _ (by exact HN.out.below HB.out.bel hX) (by simp; omega) hn).mono ?_; rintro e w1 ⟨rfl, hb⟩; have HT := hide (HB.out.next hb); clear HB hb; have HB := HT; clear HT)
      | (go_at_call 26; refine (isText_any _ _ (by assumption)).mono ?_; rintro e w1 ⟨rfl, hb⟩; have HT := hide (HB.out.next hb); clear HB hb; have HB := HT; clear HT))
    go_ret2
    exact ⟨ret_nb (by rw [HF.out]; rfl) (by rw [HF.out]; rfl), HB.out.bel⟩
  cases hyt : okText y.data.toList
  · have HF : Hid (Wt.check W x.data.toList y.data.toList l = none) := by show _ = _; simp [Wt.check, ok3, hyt]
    go_enter Try.func18, Try.ntmps18
    unfold wval
    go_wp2_with (first
      | (go_at_call 20; rw [← wval_eq]; refine (valid_try W A n c X _ (by exact HN.out.below HB.out.bel hX) (by simp; omega) hn).mono ?_; rintro e w1 ⟨rfl, hb⟩; have HT := hide (HB.out.next hb); clear HB hb; have HB := HT; clear HT)
      | (go_at_call 26; refine (isText_any _ _ (by assumption)).mono ?_; rintro e w1 ⟨rfl, hb⟩; have HT := hide (HB.out.next hb); clear HB hb; have HB := HT; clear HT))
    go_ret2
    exact ⟨ret_nb (by rw [HF.out]; rfl) (by rw [HF.out]; rfl), HB.out.bel⟩
  have HV := hide hv
  have hx120 : x.size ≤ 120 := by simpa using okText_len hxt
  have hy120 : y.size ≤ 120 := by simpa using okText_len hyt
  have HK : Hid (Wt.checkF W x.data.toList y.data.toList (l.drop 0) 0 0 0 = Wt.check W x.data.toList y.data.toList l) := by show _ = _; simp [Wt.check, ok3, hv, hxt, hyt]
  go_enter Try.func18, Try.ntmps18
  unfold wval
  go_wp2_with (first
    | (go_at_call 20; rw [← wval_eq]; refine (valid_try W A n c X _ (by exact HN.out.below HB.out.bel hX) (by simp; omega) hn).mono ?_; rintro e w1 ⟨rfl, hb⟩; have HT := hide (HB.out.next hb); clear HB hb; have HB := HT; clear HT)
    | (go_at_call 26; refine (isText_any _ _ (by assumption)).mono ?_; rintro e w1 ⟨rfl, hb⟩; have HT := hide (HB.out.next hb); clear HB hb; have HB := HT; clear HT; obtain ⟨d0, d1, d2, d3, d4⟩ := HB.out.facts)
    | (go_at_call 27; rw [← wval_eq]; refine (open_any W HV.out x y A n c X _ (by exact HN.out.below HB.out.bel hX) (by have := HB.out.bel.size; omega)).mono ?_; rintro e w4 ⟨rfl, ho⟩; have HO := hide (ho.ed HN.out.1); have HBz := HB.out.blk.lt; have HT := hide (HB.out.next ho.bel); clear HB ho; have HB := HT; clear HT))
  clear d0 d1 d2 d3 d4
  go_loopw [11, 12, 13, 36] (fun t11 t12 t13 t36 wr => CkR wr w W A n c _ _ x y l ne t11 t12 t13 t36) (fun _ _ _ t36 _ => ne - (intOf t36).toNat)
  case atStart => exact ⟨0, 0, 0, 0, ⟨rfl, rfl, rfl, rfl, by omega, by omega, by omega, by omega, by omega, HK.out, HB.out, HO.out, by omega, by omega⟩⟩
  case round =>
    obtain ⟨k, i, j, sum, hr⟩ := hrel
    have hg' : w.heap.size < w1.heap.size := by have := hr.hg; have := hr.hm; omega
    obtain ⟨rfl, rfl, rfl, rfl, hk, hi, hj, lo, hi2, hck, hbox, hed, hg, hm⟩ := hr
    clear HB HO HK
    by_cases hlt : k < ne
    · obtain ⟨ad, rfl, _, hce⟩ := (HE.out.below hbox.bel hX).at_ hlt
      have hl : k < l.length := by rw [HE.out.len]; exact hlt
      have hdrop : l.drop k = l[k] :: l.drop (k + 1) := List.drop_eq_getElem_cons hl
      have hgd : l[k]?.getD 0 = l[k] := by rw [List.getElem?_eq_getElem hl]; rfl
      rw [hgd] at hce
      rw [hdrop] at hck
      generalize l[k] = ev at *
      clear hgd hdrop
      have HCk := hide hck
      have HBx := hide hbox
      have HEd := hide hed
      clear hck hbox hed
      by_cases t1 : ev < 1
      · have HF : Hid (Wt.check W x.data.toList y.data.toList l = none) := by show _ = _; rw [← HCk.out]; simp [Wt.checkF, t1]
        go_wp2
        go_ret2
        exact ⟨ret_nb (by rw [HF.out]; rfl) (by rw [HF.out]; rfl), HBx.out.bel⟩
      by_cases t2 : 5 < ev
      · have HF : Hid (Wt.check W x.data.toList y.data.toList l = none) := by show _ = _; rw [← HCk.out]; simp [Wt.checkF, t2]
        go_wp2
        go_ret2
        exact ⟨ret_nb (by rw [HF.out]; rfl) (by rw [HF.out]; rfl), HBx.out.bel⟩
      obtain ⟨q, rfl⟩ := Int.eq_ofNat_of_zero_le (show 0 ≤ ev by omega)
      have hq : q < 6 := by omega
      obtain ⟨⟨sc, sa, sb⟩, hs⟩ : ∃ s, Wt.stp W x.data.toList y.data.toList i j q = s := ⟨_, rfl⟩
      have hfit := Wt.stp_fits HV.out (show i ≤ x.data.toList.length by simpa using hi) (show j ≤ y.data.toList.length by simpa using hj) hq
      rw [hs] at hfit
      have hix := fun w => index_step _ (steps_length W x.data.toList y.data.toList i j) (stp_list hq hs) w
      have HS := hide hs
      clear hs
      by_cases hneg : sc < 0
      · have HF : Hid (Wt.check W x.data.toList y.data.toList l = none) := by show _ = _; rw [← HCk.out]; simp [Wt.checkF, t1, t2, HS.out, hneg]
        clear hfit
        go_wp2_with (go_at_call 31; refine (steps_any W HV.out x y A n c _ _ i j _ HEd.out hx120 hy120 hi hj).mono ?_; rintro e w5 ⟨rfl, hb⟩; have HBB := hide (HBx.out.next hb); clear hb)
        go_ret2
        exact ⟨ret_nb (by rw [HF.out]; rfl) (by rw [HF.out]; rfl), HBB.out.bel.trans ((Below.refl _ _).alloc HBB.out.bel.size _)⟩
      · have hf : sc ≤ 1000 ∧ 0 ≤ sa ∧ 0 ≤ sb ∧ 0 < sa + sb ∧ i + sa ≤ x.size ∧ j + sb ≤ y.size := by
          have := hfit.resolve_left hneg
          simpa using this
        clear hfit
        obtain ⟨f1, f2, f3, f4, f5, f6⟩ := hf
        obtain ⟨na, rfl⟩ := Int.eq_ofNat_of_zero_le f2
        obtain ⟨nb, rfl⟩ := Int.eq_ofNat_of_zero_le f3
        have HN1 : Hid (Wt.checkF W x.data.toList y.data.toList (l.drop (k + 1)) (i + na) (j + nb) (sum + sc) = Wt.check W x.data.toList y.data.toList l) := by
          show _ = _
          rw [← HCk.out]; simp [Wt.checkF, t1, t2, HS.out, hneg]
        go_wp2_with (go_at_call 31; refine (steps_any W HV.out x y A n c _ _ i j _ HEd.out hx120 hy120 hi hj).mono ?_; rintro e w5 ⟨rfl, hb⟩; have HBB := hide (HBx.out.next hb); have HEE := hide (HEd.out.below hb HEd.out.blk.lt HEd.out.map.lt); clear hb)
        have s1 : IntKind.i64.wrap ((i : Int) + (na : Int)) = (i : Int) + (na : Int) := IntWalk.i64_in _ (by omega)
        have s5 : IntKind.i64.wrap ((j : Int) + (nb : Int)) = (j : Int) + (nb : Int) := IntWalk.i64_in _ (by omega)
        have s9 : IntKind.i64.wrap (sum + sc) = sum + sc := IntWalk.i64_in _ (by omega)
        go_quiet (fail)
        clear s1 s5 s9
        go_wp2
        go_roundw
        case rel =>
          have hz := HBB.out.blk.lt
          refine ⟨k + 1, i + na, j + nb, sum + sc, ⟨vint (by omega), vint (by omega), rfl, by go_num, by omega, by omega, by omega, by omega, by omega, HN1.out, ⟨(HBB.out.blk.alloc _).drewN _, below_drewN (HBB.out.bel.alloc HBB.out.bel.size _) _⟩, ?_, by omega, by omega⟩⟩
          exact (HEE.out.below ((Below.refl _ _).alloc (Nat.le_refl _) _) HEE.out.blk.lt HEE.out.map.lt).drewN _
        case measure => simp [intOf]; omega
    · obtain rfl : k = ne := by omega
      have hnil : l.drop k = [] := List.drop_eq_nil_of_le (by rw [HE.out.len]; omega)
      rw [hnil] at hck
      have HBx := hide hbox
      have HCk := hide hck
      clear hbox hed hck hnil
      by_cases t1 : i < x.size
      · have HF : Hid (Wt.check W x.data.toList y.data.toList l = none) := by show _ = _; rw [← HCk.out]; simp [Wt.checkF, t1]
        go_wp2
        go_ret2
        exact ⟨ret_nb (by rw [HF.out]; rfl) (by rw [HF.out]; rfl), HBx.out.bel⟩
      by_cases t2 : j < y.size
      · have HF : Hid (Wt.check W x.data.toList y.data.toList l = none) := by show _ = _; rw [← HCk.out]; simp [Wt.checkF, t2]
        go_wp2
        go_ret2
        exact ⟨ret_nb (by rw [HF.out]; rfl) (by rw [HF.out]; rfl), HBx.out.bel⟩
      · have HF : Hid (Wt.check W x.data.toList y.data.toList l = some sum) := by show _ = _; rw [← HCk.out]; simp [Wt.checkF, t1, t2]
        go_wp2
        go_ret2
        exact ⟨ret_nb (by rw [HF.out]; rfl) (by rw [HF.out]; rfl), HBx.out.bel⟩
end Go.Proofs.Ytnpdhbagfkilkaa

/- The reference of layer 18: Distance, Check. -/
set_option linter.unusedVariables false
set_option linter.unusedSimpArgs false
namespace Go.Proofs.Ytnpdhbagfkilkaa
open Go.RowKit

theorem ok3_n1 {W : Wt} {x y : List UInt8} (h : W.valid = false) : ok3 W x y = false := by simp [ok3, h]
theorem ok3_n2 {W : Wt} {x y : List UInt8} (h : okText x = false) : ok3 W x y = false := by simp [ok3, h]
theorem ok3_n3 {W : Wt} {x y : List UInt8} (h : okText y = false) : ok3 W x y = false := by simp [ok3, h]
theorem ok3_yes {W : Wt} {x y : List UInt8} (h1 : W.valid = true) (h2 : okText x = true) (h3 : okText y = true) : ok3 W x y = true := by simp [ok3, h1, h2, h3]
theorem dist_no {W : Wt} {x y : List UInt8} (h : ok3 W x y = false) : dist W x y = 0 ∧ errn (ok3 W x y) = 1 := by simp [dist, errn, h]
theorem dist_yes {W : Wt} {x y : List UInt8} (h : ok3 W x y = true) : dist W x y = W.D x y 0 0 ∧ errn (ok3 W x y) = 0 := by simp [dist, errn, h]
theorem check_no {W : Wt} {x y : List UInt8} {l : List Int} (h : ok3 W x y = false) : Wt.check W x y l = none := by simp [Wt.check, h]
set_option maxRecDepth 100000 in
set_option maxHeartbeats 8000000 in
theorem rdistance_any (W : Wt) (A : Option Addr) (n c X : Nat) (x y : ByteArray) (w : World) (hN : Near w X A n W.near) (hX0 : X ≤ w.heap.size) (hn : n ≤ 140737488355328) (hx : x.size ≤ maxLen) (hy : y.size ≤ maxLen) :
    Calls Try.prog 13 #[wval W A n c, .string x, .string y] w fun e w' => e = .returned (.tuple #[.int .i64 (dist W x.data.toList y.data.toList), .int .i64 (errn (ok3 W x.data.toList y.data.toList))]) ∧ Below w.heap.size w w' := by
  have HN := hide hN
  have HB := hide (Box.start w W A n c)
  clear hN
  go_enter Try.func13, Try.ntmps13
  unfold wval
  go_upto_region 1 with fail
  generalize w.alloc (.cells #[.int .i64 W.ins, .int .i64 W.del, .int .i64 W.chg, .int .i64 W.swp, .slice A n c] 24) = w1 at *
  obtain ⟨U, hU, g, u0, rfl, hgu, hgi⟩ := cls w1
  have xs_0 := fun u => (((HB.out.blk.to (hgu u)).cell 0).trans (show _ = some (Value.int IntKind.i64 W.ins) from rfl))
  have xs_1 := fun u => (((HB.out.blk.to (hgu u)).cell 1).trans (show _ = some (Value.int IntKind.i64 W.del) from rfl))
  have xs_2 := fun u => (((HB.out.blk.to (hgu u)).cell 2).trans (show _ = some (Value.int IntKind.i64 W.chg) from rfl))
  have xs_3 := fun u => (((HB.out.blk.to (hgu u)).cell 3).trans (show _ = some (Value.int IntKind.i64 W.swp) from rfl))
  have xs_4 := fun u => (((HB.out.blk.to (hgu u)).cell 4).trans (show _ = some (Value.slice A n c) from rfl))
  have CV : ∀ u, Calls Try.prog 21 #[.agg #[.int .i64 W.ins, .int .i64 W.del, .int .i64 W.chg, .int .i64 W.swp, .slice A n c]] (g u) fun e w' => e = .returned (.bool W.valid) ∧ ∃ u', w' = g u' := fun u => cls_call hgu hgi (fun Wd hb => rvalid8_any W A n c X Wd (HN.out.below (below_to HB.out.bel (Nat.le_refl _) hb) hX0) (by have := (below_to HB.out.bel (Nat.le_refl _) hb).size; omega) hn) u
  have CX : ∀ u, Calls Try.prog 29 #[.string x] (g u) fun e w' => e = .returned (.bool (okText x.data.toList)) ∧ ∃ u', w' = g u' := fun u => cls_call hgu hgi (fun Wd hb => (refText_any x Wd hx).mono (fun e w' h => ⟨h.1, h.2 ▸ Below.refl _ _⟩)) u
  have CY : ∀ u, Calls Try.prog 29 #[.string y] (g u) fun e w' => e = .returned (.bool (okText y.data.toList)) ∧ ∃ u', w' = g u' := fun u => cls_call hgu hgi (fun Wd hb => (refText_any y Wd hy).mono (fun e w' h => ⟨h.1, h.2 ▸ Below.refl _ _⟩)) u
  cases hv : W.valid with
  | false =>
    rw [hv] at CV
    have HF := hide (ok3_n1 (W := W) (x := x.data.toList) (y := y.data.toList) hv)
    clear hv
    go_wp2_with (first | ((with_reducible refine (CV _).mono ?_); rintro e w' ⟨rfl, u, rfl⟩) | ((with_reducible refine (CX _).mono ?_); rintro e w' ⟨rfl, u, rfl⟩) | ((with_reducible refine (CY _).mono ?_); rintro e w' ⟨rfl, u, rfl⟩))
    go_ret2
    exact ⟨ret_two (dist_no HF.out).1.symm (dist_no HF.out).2.symm, below_to HB.out.bel (Nat.le_refl _) (hgu _)⟩
  | true =>
    rw [hv] at CV
    cases hxt : okText x.data.toList with
    | false =>
      rw [hxt] at CX
      have HF := hide (ok3_n2 (W := W) (x := x.data.toList) (y := y.data.toList) hxt)
      clear hxt hv
      go_wp2_with (first | ((with_reducible refine (CV _).mono ?_); rintro e w' ⟨rfl, u, rfl⟩) | ((with_reducible refine (CX _).mono ?_); rintro e w' ⟨rfl, u, rfl⟩) | ((with_reducible refine (CY _).mono ?_); rintro e w' ⟨rfl, u, rfl⟩))
      go_ret2
      exact ⟨ret_two (dist_no HF.out).1.symm (dist_no HF.out).2.symm, below_to HB.out.bel (Nat.le_refl _) (hgu _)⟩
    | true =>
      rw [hxt] at CX
      cases hyt : okText y.data.toList with
      | false =>
        rw [hyt] at CY
        have HF := hide (ok3_n3 (W := W) (x := x.data.toList) (y := y.data.toList) hyt)
        clear hyt hv hxt
        go_wp2_with (first | ((with_reducible refine (CV _).mono ?_); rintro e w' ⟨rfl, u, rfl⟩) | ((with_reducible refine (CX _).mono ?_); rintro e w' ⟨rfl, u, rfl⟩) | ((with_reducible refine (CY _).mono ?_); rintro e w' ⟨rfl, u, rfl⟩))
        go_ret2
        exact ⟨ret_two (dist_no HF.out).1.symm (dist_no HF.out).2.symm, below_to HB.out.bel (Nat.le_refl _) (hgu _)⟩
      | true =>
        rw [hyt] at CY
        have HF := hide (ok3_yes hv hxt hyt)
        have HV := hide hv
        have hx120 : x.size ≤ 120 := by simpa using okText_len hxt
        have hy120 : y.size ≤ 120 := by simpa using okText_len hyt
        have HX := hide (okText_len hxt)
        have HY := hide (okText_len hyt)
        have HD := hide (Wt.isDist hv (okText_len hxt) (okText_len hyt))
        clear hv hxt hyt
        go_wp2_with (first | ((with_reducible refine (CV _).mono ?_); rintro e w' ⟨rfl, u, rfl⟩) | ((with_reducible refine (CX _).mono ?_); rintro e w' ⟨rfl, u, rfl⟩) | ((with_reducible refine (CY _).mono ?_); rintro e w' ⟨rfl, u, rfl⟩))
        have HBg := hide (below_to HB.out.bel (Nat.le_refl _) (hgu u))
        have HNg := hide (HN.out.below HBg.out hX0)
        have HXg : Hid (X ≤ (g u).heap.size) := by have := HBg.out.size; show _ ≤ _; omega
        have HBx := hide (HB.out.next (hgu u))
        clear CV CX CY xs_0 xs_1 xs_2 xs_3 xs_4 HB
        generalize g u = w3 at *
        clear hgu hgi
        refine (rtable_any W HV.out A n c X x y w3 HNg.out HXg.out hn hx120 hy120 _ HD.out).mono ?_
        rintro e w5 ⟨rfl, hF⟩
        obtain ⟨b, p1, p2⟩ := hF.cells (i := 0) (j := 0) (Nat.zero_le _) (Nat.zero_le _) (Nat.zero_le _) (.inl (Nat.zero_le _))
        have HBL := hide (HBg.out.trans (hF.box.bel.mono HBg.out.size))
        clear hF
        have HDV := hide (dist_yes HF.out).1
        generalize W.D x.data.toList y.data.toList 0 0 = dv at *
        have s1 : (0 : Int) < (x.size : Int) + 1 := by omega
        have s2 : (0 : Int) < (y.size : Int) + 1 := by omega
        go_wp2_with fail
        go_ret2
        exact ⟨ret_two HDV.out.symm (dist_yes HF.out).2.symm, HBL.out⟩
theorem ints_at {w : World} {B n k : Nat} {A : Option Addr} {l : List Int} (h : Ints w B A n l) (hk : k < n) : ∃ (ad : Addr) (v : Int), A = some ad ∧ ad.block < B ∧ l[k]? = some v ∧ w.cell? (ad.add k) = some (.int .i64 v) := by
  obtain ⟨ad, e, hb, hc⟩ := Reads.at_ h hk
  obtain ⟨u, a0, c0⟩ := hc 0 (by omega)
  rw [Nat.mul_one, Nat.add_zero] at a0
  rw [add_of_add, Nat.mul_one, Nat.add_zero] at c0
  rw [List.getElem?_map] at a0
  cases hl : l[k]? with
  | none => rw [hl] at a0; cases a0
  | some v =>
    rw [hl] at a0
    exact ⟨ad, v, e, hb, rfl, c0.trans a0.symm⟩
theorem drop_atI {l : List Int} {k : Nat} {x : Int} (h : l[k]? = some x) : l.drop k = x :: l.drop (k + 1) := by
  obtain ⟨hlt, e⟩ := List.getElem?_eq_some_iff.1 h
  rw [List.drop_eq_getElem_cons hlt, e]
end Go.Proofs.Ytnpdhbagfkilkaa

/- The reference of layer 18: Check. -/
set_option linter.unusedVariables false
set_option linter.unusedSimpArgs false
namespace Go.Proofs.Ytnpdhbagfkilkaa
open Go.RowKit

theorem checkF_nil {W : Wt} {x y : List UInt8} {i j : Nat} {sum : Int} : Wt.checkF W x y [] i j sum = if i < x.length ∨ j < y.length then none else some sum := rfl
theorem checkF_step {W : Wt} (hW : W.valid = true) {x y : List UInt8} {i j : Nat} {sum v : Int} {l : List Int} : Wt.checkF W x y (v :: l) i j sum = if (stepR W x y i j v).2.2.2 = true then Wt.checkF W x y l (i + (stepR W x y i j v).2.1.toNat) (j + (stepR W x y i j v).2.2.1.toNat) (sum + (stepR W x y i j v).1) else none := by
  rw [Wt.checkF]
  by_cases h : 1 ≤ v ∧ v ≤ 5
  · rw [if_neg (by omega)]
    unfold stepR
    rw [if_pos h]
    by_cases hn : (Wt.stp W x y i j v.toNat).1 < 0
    · rw [if_pos hn, if_pos hn]; rfl
    · rw [if_neg hn, if_neg hn]; rfl
  · rw [if_pos (by omega), stepR_no h]; rfl
theorem stepR_fit {W : Wt} (hW : W.valid = true) {x y : ByteArray} {i j : Nat} (hi : i ≤ x.size) (hj : j ≤ y.size) {kind : Int} (h : (stepR W x.data.toList y.data.toList i j kind).2.2.2 = true) :
    0 ≤ (stepR W x.data.toList y.data.toList i j kind).1 ∧ (stepR W x.data.toList y.data.toList i j kind).1 ≤ 1000 ∧ 0 ≤ (stepR W x.data.toList y.data.toList i j kind).2.1 ∧ 0 ≤ (stepR W x.data.toList y.data.toList i j kind).2.2.1 ∧
    0 < (stepR W x.data.toList y.data.toList i j kind).2.1 + (stepR W x.data.toList y.data.toList i j kind).2.2.1 ∧ (i + (stepR W x.data.toList y.data.toList i j kind).2.1 ≤ x.size ∧ j + (stepR W x.data.toList y.data.toList i j kind).2.2.1 ≤ y.size) := by
  by_cases hk : 1 ≤ kind ∧ kind ≤ 5
  · unfold stepR at h ⊢
    rw [if_pos hk] at h ⊢
    by_cases hn : (Wt.stp W x.data.toList y.data.toList i j kind.toNat).1 < 0
    · rw [if_pos hn] at h; cases h
    · rw [if_neg hn]
      have hf := (Wt.stp_fits hW (x := x.data.toList) (y := y.data.toList) (i := i) (j := j) (by simpa using hi) (by simpa using hj) (k := kind.toNat) (by omega)).resolve_left hn
      simp at hf ⊢
      omega
  · rw [stepR_no hk] at h; cases h
theorem ints_end {w : World} {B n : Nat} {A : Option Addr} {l : List Int} (h : Ints w B A n l) : l.drop n = [] := List.drop_of_length_le (by rw [h.len]; exact Nat.le_refl _)
set_option maxRecDepth 100000 in
set_option maxHeartbeats 8000000 in
theorem rcheck_any (W : Wt) (A : Option Addr) (n c X : Nat) (x y : ByteArray) (E : Option Addr) (ne ce : Nat) (l : List Int) (w : World) (hN : Near w X A n W.near) (hX0 : X ≤ w.heap.size) (hn : n ≤ 140737488355328) (hx : x.size ≤ maxLen) (hy : y.size ≤ maxLen)
    (hE : Ints w X E ne l) (hne : ne ≤ 140737488355328) :
    Calls Try.prog 19 #[wval W A n c, .string x, .string y, .slice E ne ce] w fun e w' => e = .returned (.tuple #[.int .i64 ((Wt.check W x.data.toList y.data.toList l).getD 0), .bool (Wt.check W x.data.toList y.data.toList l).isSome]) ∧ Below w.heap.size w w' := by
  have HE := hide hE
  clear hE
  have HN := hide hN
  have HB := hide (Box.start w W A n c)
  clear hN
  go_enter Try.func19, Try.ntmps19
  unfold wval
  go_upto_region 1 with fail
  generalize w.alloc (.cells #[.int .i64 W.ins, .int .i64 W.del, .int .i64 W.chg, .int .i64 W.swp, .slice A n c] 24) = w1 at *
  obtain ⟨U, hU, g, u0, rfl, hgu, hgi⟩ := cls w1
  have xs_0 := fun u => (((HB.out.blk.to (hgu u)).cell 0).trans (show _ = some (Value.int IntKind.i64 W.ins) from rfl))
  have xs_1 := fun u => (((HB.out.blk.to (hgu u)).cell 1).trans (show _ = some (Value.int IntKind.i64 W.del) from rfl))
  have xs_2 := fun u => (((HB.out.blk.to (hgu u)).cell 2).trans (show _ = some (Value.int IntKind.i64 W.chg) from rfl))
  have xs_3 := fun u => (((HB.out.blk.to (hgu u)).cell 3).trans (show _ = some (Value.int IntKind.i64 W.swp) from rfl))
  have xs_4 := fun u => (((HB.out.blk.to (hgu u)).cell 4).trans (show _ = some (Value.slice A n c) from rfl))
  have CV : ∀ u, Calls Try.prog 21 #[.agg #[.int .i64 W.ins, .int .i64 W.del, .int .i64 W.chg, .int .i64 W.swp, .slice A n c]] (g u) fun e w' => e = .returned (.bool W.valid) ∧ ∃ u', w' = g u' := fun u => cls_call hgu hgi (fun Wd hb => rvalid8_any W A n c X Wd (HN.out.below (below_to HB.out.bel (Nat.le_refl _) hb) hX0) (by have := (below_to HB.out.bel (Nat.le_refl _) hb).size; omega) hn) u
  have CX : ∀ u, Calls Try.prog 29 #[.string x] (g u) fun e w' => e = .returned (.bool (okText x.data.toList)) ∧ ∃ u', w' = g u' := fun u => cls_call hgu hgi (fun Wd hb => (refText_any x Wd hx).mono (fun e w' h => ⟨h.1, h.2 ▸ Below.refl _ _⟩)) u
  have CY : ∀ u, Calls Try.prog 29 #[.string y] (g u) fun e w' => e = .returned (.bool (okText y.data.toList)) ∧ ∃ u', w' = g u' := fun u => cls_call hgu hgi (fun Wd hb => (refText_any y Wd hy).mono (fun e w' h => ⟨h.1, h.2 ▸ Below.refl _ _⟩)) u
  cases hv : W.valid with
  | false =>
    rw [hv] at CV
    have HF := hide (ok3_n1 (W := W) (x := x.data.toList) (y := y.data.toList) hv)
    clear hv
    go_wp2_with (first | ((with_reducible refine (CV _).mono ?_); rintro e w' ⟨rfl, u, rfl⟩) | ((with_reducible refine (CX _).mono ?_); rintro e w' ⟨rfl, u, rfl⟩) | ((with_reducible refine (CY _).mono ?_); rintro e w' ⟨rfl, u, rfl⟩))
    go_ret2
    exact ⟨ret_nb (by rw [check_no HF.out]; rfl) (by rw [check_no HF.out]; rfl), below_to HB.out.bel (Nat.le_refl _) (hgu _)⟩
  | true =>
    rw [hv] at CV
    cases hxt : okText x.data.toList with
    | false =>
      rw [hxt] at CX
      have HF := hide (ok3_n2 (W := W) (x := x.data.toList) (y := y.data.toList) hxt)
      clear hxt hv
      go_wp2_with (first | ((with_reducible refine (CV _).mono ?_); rintro e w' ⟨rfl, u, rfl⟩) | ((with_reducible refine (CX _).mono ?_); rintro e w' ⟨rfl, u, rfl⟩) | ((with_reducible refine (CY _).mono ?_); rintro e w' ⟨rfl, u, rfl⟩))
      go_ret2
      exact ⟨ret_nb (by rw [check_no HF.out]; rfl) (by rw [check_no HF.out]; rfl), below_to HB.out.bel (Nat.le_refl _) (hgu _)⟩
    | true =>
      rw [hxt] at CX
      cases hyt : okText y.data.toList with
      | false =>
        rw [hyt] at CY
        have HF := hide (ok3_n3 (W := W) (x := x.data.toList) (y := y.data.toList) hyt)
        clear hyt hv hxt
        go_wp2_with (first | ((with_reducible refine (CV _).mono ?_); rintro e w' ⟨rfl, u, rfl⟩) | ((with_reducible refine (CX _).mono ?_); rintro e w' ⟨rfl, u, rfl⟩) | ((with_reducible refine (CY _).mono ?_); rintro e w' ⟨rfl, u, rfl⟩))
        go_ret2
        exact ⟨ret_nb (by rw [check_no HF.out]; rfl) (by rw [check_no HF.out]; rfl), below_to HB.out.bel (Nat.le_refl _) (hgu _)⟩
      | true =>
        rw [hyt] at CY
        have HF := hide (ok3_yes hv hxt hyt)
        have HV := hide hv
        have hx120 : x.size ≤ 120 := by simpa using okText_len hxt
        have hy120 : y.size ≤ 120 := by simpa using okText_len hyt
        have HX := hide (okText_len hxt)
        have HY := hide (okText_len hyt)
        have HD := hide (Wt.isDist hv (okText_len hxt) (okText_len hyt))
        clear hv hxt hyt
        have HK : Hid (Wt.checkF W x.data.toList y.data.toList (l.drop 0) 0 0 0 = Wt.check W x.data.toList y.data.toList l) := by show _ = _; simp [Wt.check, HF.out]
        go_wp2_with (first | ((with_reducible refine (CV _).mono ?_); rintro e w' ⟨rfl, u, rfl⟩) | ((with_reducible refine (CX _).mono ?_); rintro e w' ⟨rfl, u, rfl⟩) | ((with_reducible refine (CY _).mono ?_); rintro e w' ⟨rfl, u, rfl⟩))
        have HBg := hide (below_to HB.out.bel (Nat.le_refl _) (hgu u))
        have HNg := hide (HN.out.below HBg.out hX0)
        have HXg : Hid (X ≤ (g u).heap.size) := by have := HBg.out.size; show _ ≤ _; omega
        have HEg := hide (HE.out.below HBg.out hX0)
        have HBx := hide (HB.out.next (hgu u))
        clear CV CX CY xs_0 xs_1 xs_2 xs_3 xs_4 HB
        generalize g u = w3 at *
        clear hgu hgi
        go_loopw [10, 11, 12, 13] (fun t10 t11 t12 t13 wr => ∃ (k i j : Nat) (sum : Int), t13 = .int .i64 (k : Int) ∧ t10 = .int .i64 (i : Int) ∧ t11 = .int .i64 (j : Int) ∧ t12 = .int .i64 sum ∧ (k ≤ ne ∧ i ≤ x.size ∧ j ≤ y.size ∧ 0 ≤ sum ∧ sum ≤ 1000 * ((i : Int) + j)) ∧ Wt.checkF W x.data.toList y.data.toList (l.drop k) i j sum = Wt.check W x.data.toList y.data.toList l ∧ Below w3.heap.size w3 wr) (fun _ _ _ t13 _ => ne - (intOf t13).toNat)
        case atStart => exact ⟨0, 0, 0, 0, rfl, rfl, rfl, rfl, ⟨Nat.zero_le _, Nat.zero_le _, Nat.zero_le _, by omega, by omega⟩, HK.out, Below.refl _ _⟩
        case round =>
          obtain ⟨k, i, j, sum, rfl, rfl, rfl, rfl, ⟨hk, hi, hj, hs0, hs1⟩, hck, hB⟩ := hrel
          have HBk := hide hB
          have HCK := hide hck
          clear hB hck HK
          have HBy := hide (HBx.out.next HBk.out)
          by_cases hke : k < ne
          · have e1 : decide ((k : Int) < (ne : Int)) = true := decide_eq_true (by omega)
            have e1' : decide (k < ne) = true := decide_eq_true hke
            obtain ⟨ad, v, ea, hab, hlv, cv⟩ := ints_at (HEg.out.below HBk.out HXg.out) hke
            have HDR := hide (drop_atI hlv)
            have k0 : (0 : Int) ≤ (k : Int) := by omega
            have k1 : (k : Int) < (ne : Int) := by omega
            have HKE := hide hke
            have HAB := hide hab
            subst ea
            clear hlv hab hke
            obtain ⟨V, hV, h, v0, rfl, hhu, hhi⟩ := cls wr
            have xs_0 := fun u => (((HBy.out.blk.to (hhu u)).cell 0).trans (show _ = some (Value.int IntKind.i64 W.ins) from rfl))
            have xs_1 := fun u => (((HBy.out.blk.to (hhu u)).cell 1).trans (show _ = some (Value.int IntKind.i64 W.del) from rfl))
            have xs_2 := fun u => (((HBy.out.blk.to (hhu u)).cell 2).trans (show _ = some (Value.int IntKind.i64 W.chg) from rfl))
            have xs_3 := fun u => (((HBy.out.blk.to (hhu u)).cell 3).trans (show _ = some (Value.int IntKind.i64 W.swp) from rfl))
            have xs_4 := fun u => (((HBy.out.blk.to (hhu u)).cell 4).trans (show _ = some (Value.slice A n c) from rfl))
            have xv := fun u => ((hhu u).cell (p := ad.add k) (by rw [block_of_add]; have h1 := HAB.out; have h2 := HXg.out; have h3 := HBk.out.size; omega)).trans cv
            have CS : ∀ u, Calls Try.prog 32 #[.agg #[.int .i64 W.ins, .int .i64 W.del, .int .i64 W.chg, .int .i64 W.swp, .slice A n c], .string x, .string y, .int .i64 (i : Int), .int .i64 (j : Int), .int .i64 v] (h u) fun e w' => e = .returned (stepV (stepR W x.data.toList y.data.toList i j v)) ∧ ∃ u', w' = h u' := fun u => cls_call hhu hhi (fun Wd hb => rstep_any W HV.out A n c X x y i j v Wd (HNg.out.below (below_to HBk.out (Nat.le_refl _) hb) HXg.out) (by have := (below_to HBk.out (Nat.le_refl _) hb).size; have := HXg.out; omega) hn hi hj hx120 hy120) u
            have HCS : Hid (Wt.checkF W x.data.toList y.data.toList (l.drop k) i j sum = if (stepR W x.data.toList y.data.toList i j v).2.2.2 = true then Wt.checkF W x.data.toList y.data.toList (l.drop (k + 1)) (i + (stepR W x.data.toList y.data.toList i j v).2.1.toNat) (j + (stepR W x.data.toList y.data.toList i j v).2.2.1.toNat) (sum + (stepR W x.data.toList y.data.toList i j v).1) else none) := by
              show _ = _
              rw [HDR.out, checkF_step HV.out]
            have HFT := hide (stepR_fit HV.out (x := x) (y := y) hi hj (kind := v))
            generalize stepR W x.data.toList y.data.toList i j v = q at *
            obtain ⟨sc, sa, sb, ok⟩ := q
            cases ok with
            | false =>
              have HFN : Hid (Wt.check W x.data.toList y.data.toList l = none) := by show _ = _; rw [← HCK.out, HCS.out]; rfl
              unfold stepV at CS
              go_wp2_with fail
              refine wp_region_class h (by kernel_rfl) (by kernel_rfl) (hhi _ (hhu _).drew) ?_
              repeat (go_big_quiet_step (with_reducible exact CS _))
              refine wpQuiet_nil ?_
              intro w9 hw9
              obtain ⟨u, rfl⟩ := hw9
              go_wp2_with fail
              go_ret2
              exact ⟨ret_nb (by rw [HFN.out]; rfl) (by rw [HFN.out]; rfl), HBg.out.trans ((below_to HBk.out (Nat.le_refl _) (hhu _)).mono HBg.out.size)⟩
            | true =>
              obtain ⟨f0, f1, f2, f3, f5, f6⟩ := HFT.out rfl
              dsimp only at f0 f1 f2 f3 f5 f6
              obtain ⟨na, rfl⟩ := Int.eq_ofNat_of_zero_le f2
              obtain ⟨nb, rfl⟩ := Int.eq_ofNat_of_zero_le f3
              have HCN : Hid (Wt.checkF W x.data.toList y.data.toList (l.drop (k + 1)) (i + na) (j + nb) (sum + sc) = Wt.check W x.data.toList y.data.toList l) := by show _ = _; rw [← HCK.out, HCS.out]; rfl
              unfold stepV at CS
              clear HCS HFT
              go_wp2_with fail
              refine wp_region_class h (by kernel_rfl) (by kernel_rfl) (hhi _ (hhu _).drew) ?_
              repeat (go_big_quiet_step (with_reducible exact CS _))
              refine wpQuiet_nil ?_
              intro w9 hw9
              obtain ⟨u, rfl⟩ := hw9
              clear CS xs_0 xs_1 xs_2 xs_3 xs_4 xv
              go_wp2_with fail
              go_roundw
              case rel => exact ⟨k + 1, i + na, j + nb, sum + sc, by go_num, vint (by omega), vint (by omega), rfl, ⟨by have := HKE.out; omega, by omega, by omega, by omega, by omega⟩, HCN.out, below_to HBk.out (Nat.le_refl _) (hhu _)⟩
              case measure => have := HKE.out; simp [intOf] <;> omega
          · obtain rfl : k = ne := by omega
            have e1 : decide ((k : Int) < (k : Int)) = false := by simp
            have e1' : decide (k < k) = false := by simp
            have HFN : Hid (Wt.check W x.data.toList y.data.toList l = if i < x.size ∨ j < y.size then none else some sum) := by
              show _ = _
              rw [← HCK.out, ints_end HEg.out, checkF_nil]
              simp
            by_cases hix : i < x.size
            · have g1 : decide ((i : Int) < (x.size : Int)) = true := decide_eq_true (by omega)
              have g1' : decide (i < x.size) = true := decide_eq_true hix
              have HR : Hid (Wt.check W x.data.toList y.data.toList l = none) := by show _ = _; rw [HFN.out, if_pos (.inl hix)]
              clear hix
              go_wp2_with fail
              go_ret2
              exact ⟨ret_nb (by rw [HR.out]; rfl) (by rw [HR.out]; rfl), HBg.out.trans (HBk.out.mono HBg.out.size)⟩
            · have g1 : decide ((i : Int) < (x.size : Int)) = false := decide_eq_false (by omega)
              have g1' : decide (i < x.size) = false := decide_eq_false hix
              by_cases hjy : j < y.size
              · have g2 : decide ((j : Int) < (y.size : Int)) = true := decide_eq_true (by omega)
                have g2' : decide (j < y.size) = true := decide_eq_true hjy
                have HR : Hid (Wt.check W x.data.toList y.data.toList l = none) := by show _ = _; rw [HFN.out, if_pos (.inr hjy)]
                clear hix hjy
                go_wp2_with fail
                go_ret2
                exact ⟨ret_nb (by rw [HR.out]; rfl) (by rw [HR.out]; rfl), HBg.out.trans (HBk.out.mono HBg.out.size)⟩
              · have g2 : decide ((j : Int) < (y.size : Int)) = false := decide_eq_false (by omega)
                have g2' : decide (j < y.size) = false := decide_eq_false hjy
                have HR : Hid (Wt.check W x.data.toList y.data.toList l = some sum) := by show _ = _; rw [HFN.out, if_neg (by omega)]
                clear hix hjy
                go_wp2_with fail
                go_ret2
                exact ⟨ret_nb (by rw [HR.out]; rfl) (by rw [HR.out]; rfl), HBg.out.trans (HBk.out.mono HBg.out.size)⟩
end Go.Proofs.Ytnpdhbagfkilkaa

/- Walks: edit.Best. -/
set_option linter.unusedVariables false
set_option linter.unusedSimpArgs false
namespace Go.Proofs.Ytnpdhbagfkilkaa
open Go.RowKit

theorem own_block {w : World} {base : Nat} {e : TypeId} {size n : Nat} {v : Value} {xs : List Value} (h : w.ownsRow base e size v n xs) : ∀ k, v.ownBlock = some k → base ≤ k ∧ k < w.heap.size := by
  rcases h.2 with ⟨rfl, _⟩ | ⟨g, cap, cur, rfl, hb, hh, _⟩
  · intro k hk; simp [Value.ownBlock] at hk
  · intro k hk
    simp only [Value.ownBlock, Option.some.injEq] at hk
    subst hk
    exact ⟨hb, (Array.getElem?_eq_some_iff.1 hh).1⟩
theorem own_drewN {w : World} {base : Nat} {e : TypeId} {size n : Nat} {v : Value} {xs : List Value} (h : w.ownsRow base e size v n xs) (q : Nat) : (w.drewN q).ownsRow base e size v n xs := h
/-- a slice value that holds the integers l -/
def IntsV (w : World) (v : Value) (l : List Int) : Prop := ∃ A c, v = .slice A l.length c ∧ Ints w w.heap.size A l.length l
theorem IntsV.nil (w : World) : IntsV w (.slice none 0 0) [] := ⟨none, 0, rfl, Reads.none_⟩
theorem IntsV.of_own {w : World} {base : Nat} {e : TypeId} {v : Value} {l : List Int} (h : w.ownsRow base e 1 v l.length (l.map (Value.int .i64))) : IntsV w v l := by
  rcases h.2 with ⟨rfl, h0⟩ | ⟨g, cap, cur, rfl, hb, hh, h1, h2, h3, h4⟩
  · have : l = [] := List.eq_nil_of_length_eq_zero h0
    subst this
    exact IntsV.nil w
  · refine ⟨some ⟨g, 0, none⟩, cap, rfl, by simp, fun _ => ⟨⟨g, 0, none⟩, rfl, (Array.getElem?_eq_some_iff.1 hh).1, fun j u hu => ?_⟩⟩
    have e1 : (⟨g, 0, none⟩ : Addr).add j = ⟨g, j, none⟩ := by unfold Addr.add; split <;> simp_all
    rw [e1, cell_of_row w g j cur e (0, 0) hh]
    rw [← h4, List.getElem?_take] at hu
    split at hu
    · simpa using hu
    · cases hu

structure BsRel (wr wT : World) (W : Wt) (x y : ByteArray) (t11 : Value) (i j : Nat) (l : List Int) : Prop where
  hi : i ≤ x.size
  hj : j ≤ y.size
  len : l.length ≤ i + j
  path : l ++ Wt.G W x.data.toList y.data.toList i j = Wt.G W x.data.toList y.data.toList 0 0
  own : wr.ownsRow wT.heap.size 3 1 t11 l.length (l.map (Value.int .i64))
  bel : Below wT.heap.size wT wr
def BsR (wr wT : World) (W : Wt) (x y : ByteArray) (t11 t12 t13 : Value) : Prop :=
  ∃ i j l, t12 = .int .i64 (i : Nat) ∧ t13 = .int .i64 (j : Nat) ∧ BsRel wr wT W x y t11 i j l
def BsK (wr wT : World) (W : Wt) (x y : ByteArray) (i j : Nat) (l : List Int) (v t11 t12 t13 t49 : Value) : Prop :=
  ∃ k : Nat, k ≤ 6 ∧ t49 = .int .i64 k ∧ v = t11 ∧ t12 = .int .i64 i ∧ t13 = .int .i64 j ∧ (∀ q, q < k → Wt.goodK W x.data.toList y.data.toList i j q = false) ∧ BsRel wr wT W x y v i j l

theorem BsRel.more {wr wT : World} {W : Wt} {x y : ByteArray} {v : Value} {i j : Nat} {l : List Int} (h : BsRel wr wT W x y v i j l) (o : Obj) (q : Nat) : BsRel ((wr.alloc o).drewN q) wT W x y v i j l :=
  ⟨h.hi, h.hj, h.len, h.path, own_drewN (h.own.alloc o) q, below_drewN (h.bel.alloc h.bel.size o) q⟩
theorem BsRel.below {wr w' wT : World} {W : Wt} {x y : ByteArray} {v : Value} {i j : Nat} {l : List Int} (h : BsRel wr wT W x y v i j l) (hb : Below wr.heap.size wr w') : BsRel w' wT W x y v i j l :=
  ⟨h.hi, h.hj, h.len, h.path, (by
    refine ⟨h.own.1, ?_⟩
    rcases h.own.2 with h0 | ⟨g, cap, cur, h1, h2, h3, h4⟩
    · exact .inl h0
    · exact .inr ⟨g, cap, cur, h1, h2, (hb.block g (Array.getElem?_eq_some_iff.1 h3).1).trans h3, h4⟩), h.bel.trans (hb.mono h.bel.size)⟩
/-- the facts that a round reads of the table -/
theorem FillRel.two {wT w : World} {g m : Nat} {W : Wt} {A : Option Addr} {n c : Nat} {x y : ByteArray} {D : Nat → Nat → Int} (h : FillRel wT w g m W A n c x y D 0 0) {wr : World} (hb : Below wT.heap.size wT wr) {i j : Nat} (hi : i ≤ x.size) (hj : j ≤ y.size) :
    wr.cell? ⟨w.heap.size, i, none⟩ = some (.slice (some ⟨w.heap.size + 1 + i, 0, none⟩) (y.size + 1) (y.size + 1)) ∧ wr.cell? ⟨w.heap.size + 1 + i, j, none⟩ = some (.int .i64 (D i j)) ∧ w.heap.size < wr.heap.size ∧ w.heap.size + 1 + i < wr.heap.size := by
  have hz := h.size
  have hz2 := hb.size
  obtain ⟨h1, h2⟩ := h.cells hi hj (.inl (by omega))
  exact ⟨(hb.cell (p := ⟨w.heap.size, i, none⟩) (by show w.heap.size < wT.heap.size; omega)).trans h1, (hb.cell (p := ⟨w.heap.size + 1 + i, j, none⟩) (by show w.heap.size + 1 + i < wT.heap.size; omega)).trans h2, by omega, by omega⟩
theorem good_iff {W : Wt} {x y : List UInt8} {i j k na nb : Nat} {sc dv dij : Int} (hs : Wt.stp W x y i j k = (sc, (na : Int), (nb : Int))) (h1 : Wt.D W x y (i + na) (j + nb) = dv) (h2 : Wt.D W x y i j = dij) : Wt.goodK W x y i j k = (decide (0 ≤ sc) && decide (sc + dv = dij)) := by
  unfold Wt.goodK
  rw [hs]
  simp only [Int.toNat_natCast, h1, h2]
theorem good_neg {W : Wt} {x y : List UInt8} {i j k : Nat} {sc sa sb : Int} (hs : Wt.stp W x y i j k = (sc, sa, sb)) (h : sc < 0) : Wt.goodK W x y i j k = false := by
  unfold Wt.goodK
  rw [hs]
  simp; omega
theorem one_new {W : World} {a : Value} {ty : TypeId} {b : Nat} (hb : b = W.heap.size) : ∀ (j : Nat) (u : Value), [a][j]? = some u → (W.alloc (.cells #[a] ty)).cell? ((⟨b, 0, none⟩ : Addr).add j) = some u := by
  subst hb
  exact cell_one_new _ _ _
theorem BsK.next {wr wT : World} {W : Wt} {x y : ByteArray} {v : Value} {i j k : Nat} {l : List Int} (hk : k < 6) (hmin : ∀ q, q < k → Wt.goodK W x.data.toList y.data.toList i j q = false) (hg : Wt.goodK W x.data.toList y.data.toList i j k = false) (h : BsRel wr wT W x y v i j l) (o : Obj) (q : Nat) :
    BsK ((wr.alloc o).drewN q) wT W x y i j l v v (.int .i64 i) (.int .i64 j) (.int .i64 ((k : Int) + 1)) :=
  ⟨k + 1, by omega, by go_num, rfl, rfl, rfl, fun q hq => by
    rcases Nat.lt_or_ge q k with h | h
    · exact hmin q h
    · obtain rfl : q = k := by omega
      exact hg, h.more o q⟩
/-- one edit more -/
theorem BsRel.step {wr w' wT : World} {W : Wt} {x y : ByteArray} {v v' : Value} {i j k na nb : Nat} {l : List Int} {sc : Int} (h : BsRel wr wT W x y v i j l) (hG : Wt.G W x.data.toList y.data.toList i j = (k : Int) :: Wt.G W x.data.toList y.data.toList (i + na) (j + nb))
    (hi : i + na ≤ x.size) (hj : j + nb ≤ y.size) (hp : 0 < na + nb) (hown : w'.ownsRow wT.heap.size 3 1 v' (l.length + 1) (l.map (Value.int .i64) ++ [.int .i64 k])) (hb : Below wT.heap.size wT w') : BsRel w' wT W x y v' (i + na) (j + nb) (l ++ [(k : Int)]) :=
  ⟨hi, hj, by have := h.len; simp; omega, by rw [← h.path, hG]; simp, by simpa using hown, hb⟩

theorem BsR.mk {wr w' wT : World} {W : Wt} {x y : ByteArray} {v v' : Value} {i j k na nb : Nat} {l : List Int} (h : BsRel wr wT W x y v i j l) (hG : Wt.G W x.data.toList y.data.toList i j = (k : Int) :: Wt.G W x.data.toList y.data.toList (i + na) (j + nb))
    (hi : i + na ≤ x.size) (hj : j + nb ≤ y.size) (hp : 0 < na + nb) (hown : w'.ownsRow wT.heap.size 3 1 v' (l.length + 1) (l.map (Value.int .i64) ++ [.int .i64 k])) (hb : Below wT.heap.size wT w') (q : Nat) :
    BsR (w'.drewN q) wT W x y v' (.int .i64 ((i : Int) + na)) (.int .i64 ((j : Int) + nb)) :=
  ⟨i + na, j + nb, l ++ [(k : Int)], vint (by omega), vint (by omega), h.step (sc := 0) hG hi hj hp (own_drewN hown q) (below_drewN hb q)⟩
/-- behind the append: the step's box, what lay before -/
theorem best_boxes {wr wT w6 : World} {W : Wt} {x y : ByteArray} {v : Value} {i j q : Nat} {l : List Int} {a b c : Int} {k : Int} (h : BsRel wr wT W x y v i j l)
    (hg : (((wr.alloc (.cells #[.int .i64 a, .int .i64 b, .int .i64 c] 52)).drewN q).alloc (.cells #[.int .i64 k] 3)).grownBy w6 v.ownBlock) :
    w6.cell? ⟨wr.heap.size, 1, none⟩ = some (.int .i64 b) ∧ w6.cell? ⟨wr.heap.size, 2, none⟩ = some (.int .i64 c) ∧ Below wT.heap.size wT w6 := by
  have hne : some wr.heap.size ≠ v.ownBlock := fun e => by have := (own_block h.own _ e.symm).2; omega
  have hb : Blk (((wr.alloc (.cells #[.int .i64 a, .int .i64 b, .int .i64 c] 52)).drewN q).alloc (.cells #[.int .i64 k] 3)) wr.heap.size 52 #[.int .i64 a, .int .i64 b, .int .i64 c] :=
    ((Blk.new wr _ _).drewN q).alloc _
  have hb6 : Blk w6 wr.heap.size 52 #[.int .i64 a, .int .i64 b, .int .i64 c] := (hg.block _ hb.lt hne).trans hb
  have hz := h.bel.size
  have hbl : Below wT.heap.size wT (((wr.alloc (.cells #[.int .i64 a, .int .i64 b, .int .i64 c] 52)).drewN q).alloc (.cells #[.int .i64 k] 3)) :=
    (below_drewN (h.bel.alloc hz _) q).alloc (by show wT.heap.size ≤ ((wr.alloc _)).heap.size; simp; omega) _
  exact ⟨hb6.cell 1, hb6.cell 2, hbl.grown hg hbl.size (fun k hk => (own_block h.own k hk).1)⟩
theorem ret_three {v : Value} {a b c d : Int} (h1 : a = b) (h2 : c = d) : Ending.returned (.tuple #[v, .int .i64 a, .int .i64 c]) = .returned (.tuple #[v, .int .i64 b, .int .i64 d]) := by rw [h1, h2]
theorem best_f {W : Wt} {x y : List UInt8} (h : ok3 W x y = false) : bestL W x y = [] ∧ dist W x y = 0 ∧ errn (ok3 W x y) = 1 := by simp [bestL, dist, errn, h]

set_option maxHeartbeats 1000000 in
set_option maxRecDepth 100000 in
theorem best_any (W : Wt) (A : Option Addr) (n c X : Nat) (x y : ByteArray) (w : World) (hN : Near w X A n W.near) (hX : X ≤ w.heap.size) (hn : n ≤ 140737488355328) (hx : x.size ≤ maxLen) (hy : y.size ≤ maxLen) :
    Calls Try.prog 14 #[wval W A n c, .string x, .string y] w fun e w' => ∃ v, e = .returned (.tuple #[v, .int .i64 (dist W x.data.toList y.data.toList), .int .i64 (errn (ok3 W x.data.toList y.data.toList))]) ∧ IntsV w' v (bestL W x.data.toList y.data.toList) ∧ Below w.heap.size w w' := by
  have HN := hide hN
  have HB := hide (Box.start w W A n c)
  clear hN
  cases hv : W.valid
  · have HF := hide (best_f (W := W) (x := x.data.toList) (y := y.data.toList) (by simp [ok3, hv]))
    go_enter Try.func14, Try.ntmps14
    unfold wval
    go_wp2_with (go_at_call 20; rw [← wval_eq]; refine (valid_try W A n c X _ (by exact HN.out.below HB.out.bel hX) (by simp; omega) hn).mono ?_; rintro e w1 ⟨rfl, hb⟩; have HT := hide (HB.out.next hb); clear HB hb; have HB := HT; clear HT)
    go_ret3
    exact ⟨_, ret_three HF.out.2.1.symm HF.out.2.2.symm, by rw [HF.out.1]; exact IntsV.nil _, HB.out.bel⟩
  cases hxt : okText x.data.toList
  · have HF := hide (best_f (W := W) (x := x.data.toList) (y := y.data.toList) (by simp [ok3, hxt]))
    go_enter Try.func14, Try.ntmps14
    unfold wval
    go_wp2_with (first
      | (go_at_call 20; rw [← wval_eq]; refine (valid_try W A n c X _ (by exact HN.out.below HB.out.bel hX) (by simp; omega) hn).mono ?_; rintro e w1 ⟨rfl, hb⟩; have HT := hide (HB.out.next hb); clear HB hb; have HB := HT; clear HT)
      | (go_at_call 26; refine (isText_any _ _ (by assumption)).mono ?_; rintro e w1 ⟨rfl, hb⟩; have HT := hide (HB.out.next hb); clear HB hb; have HB := HT; clear HT))
    go_ret3
    exact ⟨_, ret_three HF.out.2.1.symm HF.out.2.2.symm, by rw [HF.out.1]; exact IntsV.nil _, HB.out.bel⟩
  cases hyt : okText y.data.toList
  · have HF := hide (best_f (W := W) (x := x.data.toList) (y := y.data.toList) (by simp [ok3, hyt]))
    go_enter Try.func14, Try.ntmps14
    unfold wval
    go_wp2_with (first
      | (go_at_call 20; rw [← wval_eq]; refine (valid_try W A n c X _ (by exact HN.out.below HB.out.bel hX) (by simp; omega) hn).mono ?_; rintro e w1 ⟨rfl, hb⟩; have HT := hide (HB.out.next hb); clear HB hb; have HB := HT; clear HT)
      | (go_at_call 26; refine (isText_any _ _ (by assumption)).mono ?_; rintro e w1 ⟨rfl, hb⟩; have HT := hide (HB.out.next hb); clear HB hb; have HB := HT; clear HT))
    go_ret3
    exact ⟨_, ret_three HF.out.2.1.symm HF.out.2.2.symm, by rw [HF.out.1]; exact IntsV.nil _, HB.out.bel⟩
  have HF := hide (ok3_t (W := W) (x := x.data.toList) (y := y.data.toList) hv hxt hyt)
  have HL : Hid (bestL W x.data.toList y.data.toList = Wt.G W x.data.toList y.data.toList 0 0) := by show _ = _; simp [bestL, ok3, hv, hxt, hyt]
  have HV := hide hv
  have hx120 : x.size ≤ 120 := by simpa using okText_len hxt
  have hy120 : y.size ≤ 120 := by simpa using okText_len hyt
  have HX := hide (okText_len hxt)
  have HY := hide (okText_len hyt)
  have HD := hide (Wt.isDist hv (okText_len hxt) (okText_len hyt))
  obtain ⟨i0, hi0, hz0, hz1, hz2⟩ := info_parts info_int
  go_enter Try.func14, Try.ntmps14
  unfold wval
  go_wp2_with (first
    | (go_at_call 20; rw [← wval_eq]; refine (valid_try W A n c X _ (by exact HN.out.below HB.out.bel hX) (by simp; omega) hn).mono ?_; rintro e w1 ⟨rfl, hb⟩; have HT := hide (HB.out.next hb); clear HB hb; have HB := HT; clear HT)
    | (go_at_call 26; refine (isText_any _ _ (by assumption)).mono ?_; rintro e w1 ⟨rfl, hb⟩; have HT := hide (HB.out.next hb); clear HB hb; have HB := HT; clear HT; obtain ⟨d0, d1, d2, d3, d4⟩ := HB.out.facts)
    | (go_at_call 27; rw [← wval_eq]; refine (open_any W HV.out x y A n c X _ (by exact HN.out.below HB.out.bel hX) (by have := HB.out.bel.size; omega)).mono ?_; rintro e w4 ⟨rfl, ho⟩; have HO := hide (ho.ed HN.out.1); have HBB := hide (HB.out.bel.trans (ho.bel.mono HB.out.bel.size)); clear ho HB)
    | (go_at_call 28; refine (table_any W HV.out x y A n c _ _ _ HO.out hx120 hy120 _ HD.out).mono ?_; rintro e wT ⟨rfl, hf⟩; have HT := hide hf; have hgw := HO.out.blk.lt; have hmw := HO.out.map.lt; have HBT := hide (HBB.out.trans (hf.bel.mono HBB.out.size)); have hgT := Nat.lt_of_lt_of_le hgw hf.bel.size; have hmT := Nat.lt_of_lt_of_le hmw hf.bel.size; clear hf))
  clear d0 d1 d2 d3 d4
  go_loopw [11, 12, 13] (fun t11 t12 t13 wr => BsR wr wT W x y t11 t12 t13) (fun _ t12 t13 _ => (x.size + y.size) - ((intOf t12).toNat + (intOf t13).toNat))
  case atStart => exact ⟨0, 0, [], rfl, rfl, by omega, by omega, by simp, rfl, ⟨by simp, .inl ⟨rfl, rfl⟩⟩, Below.refl _ _⟩
  case round =>
    obtain ⟨v, rfl⟩ : ∃ v : Value, v = u11 := ⟨_, rfl⟩
    obtain ⟨i, j, l, rfl, rfl, hrel⟩ := hrel
    have hi := hrel.hi
    have hj := hrel.hj
    have HEd := hide (HT.out.ed.below hrel.bel hgT hmT)
    have HR := hide hrel
    clear hrel
    by_cases hi1 : i < x.size
    · have hne : i < x.data.toList.length ∨ j < y.data.toList.length := .inl (by simpa using hi1)
      have FK := hide (Wt.firstK_spec HV.out HX.out HY.out (show i ≤ x.data.toList.length by simpa using hi) (show j ≤ y.data.toList.length by simpa using hj) hne)
      have GR := hide (Wt.G_rec HV.out HX.out HY.out (show i ≤ x.data.toList.length by simpa using hi) (show j ≤ y.data.toList.length by simpa using hj) hne)
      generalize Wt.firstK W x.data.toList y.data.toList i j = K at FK GR
      clear hne
      go_wp2_with (go_at_call 31; refine (steps_any W HV.out x y A n c _ _ i j _ HEd.out hx120 hy120 hi hj).mono ?_; rintro e w5 ⟨rfl, hb⟩; have HBS := hide (HR.out.below hb); clear hb HR HEd)
      go_loopw [11, 12, 13, 49] (fun t11 t12 t13 t49 wr => BsK wr wT W x y i j l v t11 t12 t13 t49) (fun _ _ _ t49 _ => 6 - (intOf t49).toNat)
      case atStart => exact ⟨0, by omega, rfl, rfl, rfl, rfl, fun q hq => by omega, HBS.out⟩
      case round =>
        obtain ⟨k, hk, rfl, rfl, rfl, rfl, hmin, hrel⟩ := hrel
        clear HBS
        have hkK : k ≤ K := by
          rcases Nat.lt_or_ge K k with h | h
          · have h1 := hmin K h
            rw [FK.out.2.2.1] at h1
            cases h1
          · exact h
        have hk6 : k < 6 := by have := FK.out.1; omega
        obtain ⟨⟨sc, sa, sb⟩, hs⟩ : ∃ s, Wt.stp W x.data.toList y.data.toList i j k = s := ⟨_, rfl⟩
        have hix := fun w => index_step _ (steps_length W x.data.toList y.data.toList i j) (stp_list hk6 hs) w
        have Hmin := hide hmin
        clear hmin
        by_cases hneg : sc < 0
        · have HG := hide (good_neg hs hneg)
          have HRel := hide hrel
          have hdec : decide (0 ≤ sc) = false := by simp; omega
          clear hrel hs
          go_wp2
          go_quiet (fail)
          go_wp2
          go_roundw
          case rel =>
            first | exact BsK.next hk6 Hmin.out HG.out HRel.out _ _ | ((repeat apply Exists.intro); exact ⟨BsK.next hk6 Hmin.out HG.out HRel.out _ _, rfl⟩)
          case measure => simp [intOf]; omega
        · have hfit := Wt.stp_fits HV.out (show i ≤ x.data.toList.length by simpa using hi) (show j ≤ y.data.toList.length by simpa using hj) hk6
          rw [hs] at hfit
          have hf : sc ≤ 1000 ∧ 0 ≤ sa ∧ 0 ≤ sb ∧ 0 < sa + sb ∧ i + sa ≤ x.size ∧ j + sb ≤ y.size := by
            have := hfit.resolve_left hneg
            simpa using this
          clear hfit
          obtain ⟨f1, f2, f3, f4, f5, f6⟩ := hf
          obtain ⟨na, rfl⟩ := Int.eq_ofNat_of_zero_le f2
          obtain ⟨nb, rfl⟩ := Int.eq_ofNat_of_zero_le f3
          have hi2 : i + na ≤ x.size := by omega
          have hj2 : j + nb ≤ y.size := by omega
          obtain ⟨p1, p2, p3, p4⟩ := HT.out.two hrel.bel hi2 hj2
          obtain ⟨q1, q2, q3, q4⟩ := HT.out.two hrel.bel hi hj
          have b1 := HD.out.lo (i + na) (j + nb)
          have b2 := HD.out.hi (i + na) (j + nb) (by simpa using hi2) (by simpa using hj2)
          obtain ⟨dv, hdv⟩ : ∃ dv, Wt.D W x.data.toList y.data.toList (i + na) (j + nb) = dv := ⟨_, rfl⟩
          obtain ⟨dij, hdij⟩ : ∃ dij, Wt.D W x.data.toList y.data.toList i j = dij := ⟨_, rfl⟩
          have HG := hide (good_iff hs hdv hdij)
          rw [hdv] at p2 b1 b2
          rw [hdij] at q2
          have HS := hide hs
          clear hs hdv hdij
          have HRel := hide hrel
          clear hrel
          have s1 : IntKind.i64.wrap ((i : Int) + (na : Int)) = (i : Int) + (na : Int) := IntWalk.i64_in _ (by omega)
          have s2 : 0 ≤ (i : Int) + (na : Int) := by omega
          have s3 : (i : Int) + (na : Int) < (x.size : Int) + 1 := by omega
          have s4 : ((i : Int) + (na : Int)).toNat = i + na := by omega
          have s5 : IntKind.i64.wrap ((j : Int) + (nb : Int)) = (j : Int) + (nb : Int) := IntWalk.i64_in _ (by omega)
          have s6 : 0 ≤ (j : Int) + (nb : Int) := by omega
          have s7 : (j : Int) + (nb : Int) < (y.size : Int) + 1 := by omega
          have s8 : ((j : Int) + (nb : Int)).toNat = j + nb := by omega
          have s9 : IntKind.i64.wrap (sc + dv) = sc + dv := IntWalk.i64_in _ (by omega)
          have t1 : (i : Int) < (x.size : Int) + 1 := by omega
          have t2 : (j : Int) < (y.size : Int) + 1 := by omega
          have hsc : 0 ≤ sc := by omega
          by_cases heq : sc + dv = dij
          · have hbq : ((sc + dv) == dij) = true := by simp [heq]
            have hgood : Wt.goodK W x.data.toList y.data.toList i j k = true := by rw [HG.out]; simp [hsc, heq]
            obtain rfl : k = K := by
              rcases Nat.lt_or_ge k K with h | h
              · have h1 := FK.out.2.2.2 k h
                rw [hgood] at h1; cases h1
              · omega
            have HGR : Hid (Wt.G W x.data.toList y.data.toList i j = (k : Int) :: Wt.G W x.data.toList y.data.toList (i + na) (j + nb)) := by
              show _ = _
              have h := GR.out
              rw [HS.out] at h
              simpa using h
            have HOWN := hide HRel.out.own
            clear hgood heq HG
            go_wp2
            go_quiet (fail)
            clear s1 s2 s3 s4 s5 s6 s7 s8 s9 t1 t2 hbq
            go_wp2_with (at_builtin; refine wpList_append_own _ rfl (.tmp 82) (.tmp 84) _ rfl wT.heap.size 3 i0 (.int .i64 0) 1 8 Try.underlying25 hi0 hz0 hz1 hz2 rfl (by omega) _ l.length (l.map (Value.int .i64)) rfl (by exact (own_drewN (HOWN.out.alloc _) _).alloc _) ⟨_, 0, none⟩ 1 1 [.int .i64 k] rfl rfl (one_new (by simp)) (by intro u hu; rw [List.mem_singleton.1 hu]; rfl) (by have := HRel.out.len; simp only [maxLen]; omega) (by have := HRel.out.len; omega) (by have := HRel.out.bel.size; simp; omega) ?_; intro v' w6 hown6 hgr6 _; obtain ⟨x1, x2, x3⟩ := best_boxes HRel.out hgr6; have HO6 := hide hown6; have HB6 := hide x3; clear hown6 hgr6 x3)
            have s1 : IntKind.i64.wrap ((i : Int) + (na : Int)) = (i : Int) + (na : Int) := IntWalk.i64_in _ (by omega)
            have s5 : IntKind.i64.wrap ((j : Int) + (nb : Int)) = (j : Int) + (nb : Int) := IntWalk.i64_in _ (by omega)
            go_quiet (fail)
            clear s1 s5
            go_wp2
            go_roundw
            case rel =>
              first | exact BsR.mk HRel.out HGR.out hi2 hj2 (by omega) HO6.out HB6.out _ | ((repeat apply Exists.intro); exact ⟨BsR.mk HRel.out HGR.out hi2 hj2 (by omega) HO6.out HB6.out _, rfl⟩)
            case measure => simp [intOf]; omega
          · have hbq : ((sc + dv) == dij) = false := by simp [heq]
            have hbad : Wt.goodK W x.data.toList y.data.toList i j k = false := by rw [HG.out]; simp [heq]
            have HG2 := hide hbad
            clear hbad heq HG
            go_wp2
            go_quiet (fail)
            clear s1 s2 s3 s4 s5 s6 s7 s8 s9 t1 t2 hbq
            go_wp2
            go_roundw
            case rel =>
              first | exact BsK.next hk6 Hmin.out HG2.out HRel.out _ _ | ((repeat apply Exists.intro); exact ⟨BsK.next hk6 Hmin.out HG2.out HRel.out _ _, rfl⟩)
            case measure => simp [intOf]; omega
    by_cases hj1 : j < y.size
    · have hne : i < x.data.toList.length ∨ j < y.data.toList.length := .inr (by simpa using hj1)
      have FK := hide (Wt.firstK_spec HV.out HX.out HY.out (show i ≤ x.data.toList.length by simpa using hi) (show j ≤ y.data.toList.length by simpa using hj) hne)
      have GR := hide (Wt.G_rec HV.out HX.out HY.out (show i ≤ x.data.toList.length by simpa using hi) (show j ≤ y.data.toList.length by simpa using hj) hne)
      generalize Wt.firstK W x.data.toList y.data.toList i j = K at FK GR
      clear hne
      go_wp2_with (go_at_call 31; refine (steps_any W HV.out x y A n c _ _ i j _ HEd.out hx120 hy120 hi hj).mono ?_; rintro e w5 ⟨rfl, hb⟩; have HBS := hide (HR.out.below hb); clear hb HR HEd)
      go_loopw [11, 12, 13, 49] (fun t11 t12 t13 t49 wr => BsK wr wT W x y i j l v t11 t12 t13 t49) (fun _ _ _ t49 _ => 6 - (intOf t49).toNat)
      case atStart => exact ⟨0, by omega, rfl, rfl, rfl, rfl, fun q hq => by omega, HBS.out⟩
      case round =>
        obtain ⟨k, hk, rfl, rfl, rfl, rfl, hmin, hrel⟩ := hrel
        clear HBS
        have hkK : k ≤ K := by
          rcases Nat.lt_or_ge K k with h | h
          · have h1 := hmin K h
            rw [FK.out.2.2.1] at h1
            cases h1
          · exact h
        have hk6 : k < 6 := by have := FK.out.1; omega
        obtain ⟨⟨sc, sa, sb⟩, hs⟩ : ∃ s, Wt.stp W x.data.toList y.data.toList i j k = s := ⟨_, rfl⟩
        have hix := fun w => index_step _ (steps_length W x.data.toList y.data.toList i j) (stp_list hk6 hs) w
        have Hmin := hide hmin
        clear hmin
        by_cases hneg : sc < 0
        · have HG := hide (good_neg hs hneg)
          have HRel := hide hrel
          have hdec : decide (0 ≤ sc) = false := by simp; omega
          clear hrel hs
          go_wp2
          go_quiet (fail)
          go_wp2
          go_roundw
          case rel =>
            first | exact BsK.next hk6 Hmin.out HG.out HRel.out _ _ | ((repeat apply Exists.intro); exact ⟨BsK.next hk6 Hmin.out HG.out HRel.out _ _, rfl⟩)
          case measure => simp [intOf]; omega
        · have hfit := Wt.stp_fits HV.out (show i ≤ x.data.toList.length by simpa using hi) (show j ≤ y.data.toList.length by simpa using hj) hk6
          rw [hs] at hfit
          have hf : sc ≤ 1000 ∧ 0 ≤ sa ∧ 0 ≤ sb ∧ 0 < sa + sb ∧ i + sa ≤ x.size ∧ j + sb ≤ y.size := by
            have := hfit.resolve_left hneg
            simpa using this
          clear hfit
          obtain ⟨f1, f2, f3, f4, f5, f6⟩ := hf
          obtain ⟨na, rfl⟩ := Int.eq_ofNat_of_zero_le f2
          obtain ⟨nb, rfl⟩ := Int.eq_ofNat_of_zero_le f3
          have hi2 : i + na ≤ x.size := by omega
          have hj2 : j + nb ≤ y.size := by omega
          obtain ⟨p1, p2, p3, p4⟩ := HT.out.two hrel.bel hi2 hj2
          obtain ⟨q1, q2, q3, q4⟩ := HT.out.two hrel.bel hi hj
          have b1 := HD.out.lo (i + na) (j + nb)
          have b2 := HD.out.hi (i + na) (j + nb) (by simpa using hi2) (by simpa using hj2)
          obtain ⟨dv, hdv⟩ : ∃ dv, Wt.D W x.data.toList y.data.toList (i + na) (j + nb) = dv := ⟨_, rfl⟩
          obtain ⟨dij, hdij⟩ : ∃ dij, Wt.D W x.data.toList y.data.toList i j = dij := ⟨_, rfl⟩
          have HG := hide (good_iff hs hdv hdij)
          rw [hdv] at p2 b1 b2
          rw [hdij] at q2
          have HS := hide hs
          clear hs hdv hdij
          have HRel := hide hrel
          clear hrel
          have s1 : IntKind.i64.wrap ((i : Int) + (na : Int)) = (i : Int) + (na : Int) := IntWalk.i64_in _ (by omega)
          have s2 : 0 ≤ (i : Int) + (na : Int) := by omega
          have s3 : (i : Int) + (na : Int) < (x.size : Int) + 1 := by omega
          have s4 : ((i : Int) + (na : Int)).toNat = i + na := by omega
          have s5 : IntKind.i64.wrap ((j : Int) + (nb : Int)) = (j : Int) + (nb : Int) := IntWalk.i64_in _ (by omega)
          have s6 : 0 ≤ (j : Int) + (nb : Int) := by omega
          have s7 : (j : Int) + (nb : Int) < (y.size : Int) + 1 := by omega
          have s8 : ((j : Int) + (nb : Int)).toNat = j + nb := by omega
          have s9 : IntKind.i64.wrap (sc + dv) = sc + dv := IntWalk.i64_in _ (by omega)
          have t1 : (i : Int) < (x.size : Int) + 1 := by omega
          have t2 : (j : Int) < (y.size : Int) + 1 := by omega
          have hsc : 0 ≤ sc := by omega
          by_cases heq : sc + dv = dij
          · have hbq : ((sc + dv) == dij) = true := by simp [heq]
            have hgood : Wt.goodK W x.data.toList y.data.toList i j k = true := by rw [HG.out]; simp [hsc, heq]
            obtain rfl : k = K := by
              rcases Nat.lt_or_ge k K with h | h
              · have h1 := FK.out.2.2.2 k h
                rw [hgood] at h1; cases h1
              · omega
            have HGR : Hid (Wt.G W x.data.toList y.data.toList i j = (k : Int) :: Wt.G W x.data.toList y.data.toList (i + na) (j + nb)) := by
              show _ = _
              have h := GR.out
              rw [HS.out] at h
              simpa using h
            have HOWN := hide HRel.out.own
            clear hgood heq HG
            go_wp2
            go_quiet (fail)
            clear s1 s2 s3 s4 s5 s6 s7 s8 s9 t1 t2 hbq
            go_wp2_with (at_builtin; refine wpList_append_own _ rfl (.tmp 82) (.tmp 84) _ rfl wT.heap.size 3 i0 (.int .i64 0) 1 8 Try.underlying25 hi0 hz0 hz1 hz2 rfl (by omega) _ l.length (l.map (Value.int .i64)) rfl (by exact (own_drewN (HOWN.out.alloc _) _).alloc _) ⟨_, 0, none⟩ 1 1 [.int .i64 k] rfl rfl (one_new (by simp)) (by intro u hu; rw [List.mem_singleton.1 hu]; rfl) (by have := HRel.out.len; simp only [maxLen]; omega) (by have := HRel.out.len; omega) (by have := HRel.out.bel.size; simp; omega) ?_; intro v' w6 hown6 hgr6 _; obtain ⟨x1, x2, x3⟩ := best_boxes HRel.out hgr6; have HO6 := hide hown6; have HB6 := hide x3; clear hown6 hgr6 x3)
            have s1 : IntKind.i64.wrap ((i : Int) + (na : Int)) = (i : Int) + (na : Int) := IntWalk.i64_in _ (by omega)
            have s5 : IntKind.i64.wrap ((j : Int) + (nb : Int)) = (j : Int) + (nb : Int) := IntWalk.i64_in _ (by omega)
            go_quiet (fail)
            clear s1 s5
            go_wp2
            go_roundw
            case rel =>
              first | exact BsR.mk HRel.out HGR.out hi2 hj2 (by omega) HO6.out HB6.out _ | ((repeat apply Exists.intro); exact ⟨BsR.mk HRel.out HGR.out hi2 hj2 (by omega) HO6.out HB6.out _, rfl⟩)
            case measure => simp [intOf]; omega
          · have hbq : ((sc + dv) == dij) = false := by simp [heq]
            have hbad : Wt.goodK W x.data.toList y.data.toList i j k = false := by rw [HG.out]; simp [heq]
            have HG2 := hide hbad
            clear hbad heq HG
            go_wp2
            go_quiet (fail)
            clear s1 s2 s3 s4 s5 s6 s7 s8 s9 t1 t2 hbq
            go_wp2
            go_roundw
            case rel =>
              first | exact BsK.next hk6 Hmin.out HG2.out HRel.out _ _ | ((repeat apply Exists.intro); exact ⟨BsK.next hk6 Hmin.out HG2.out HRel.out _ _, rfl⟩)
            case measure => simp [intOf]; omega
    · have hG := HR.out.path
      rw [Wt.G_end (by simp; omega), List.append_nil] at hG
      have hO := HR.out.own
      have HIV : Hid (IntsV wr v (bestL W x.data.toList y.data.toList)) := by
        rw [HL.out, ← hG]
        exact IntsV.of_own hO
      obtain ⟨q1, q2, q3, q4⟩ := HT.out.two HR.out.bel (i := 0) (j := 0) (by omega) (by omega)
      simp only [Nat.add_zero] at q1 q2 q3 q4
      have HBE := hide (HBT.out.trans (HR.out.bel.mono HBT.out.size))
      clear hG hO HR HEd
      go_wp2
      go_quiet (fail)
      go_wp2
      go_ret3
      exact ⟨_, ret_three HF.out.1.symm HF.out.2.symm, HIV.out, below_drewN HBE.out _⟩
end Go.Proofs.Ytnpdhbagfkilkaa

/- The reference of layer 18: Best. -/
set_option linter.unusedVariables false
set_option linter.unusedSimpArgs false
namespace Go.Proofs.Ytnpdhbagfkilkaa
open Go.RowKit

theorem goodK0 {W : Wt} {x y : List UInt8} {i j : Nat} : Wt.goodK W x y i j 0 = false := good_neg (sc := -1) (sa := 0) (sb := 0) rfl (by decide)
set_option maxRecDepth 100000 in
set_option maxHeartbeats 8000000 in
theorem rbest_any (W : Wt) (A : Option Addr) (n c X : Nat) (x y : ByteArray) (w : World) (hN : Near w X A n W.near) (hX0 : X ≤ w.heap.size) (hn : n ≤ 140737488355328) (hx : x.size ≤ maxLen) (hy : y.size ≤ maxLen) :
    Calls Try.prog 15 #[wval W A n c, .string x, .string y] w fun e w' => ∃ v, e = .returned (.tuple #[v, .int .i64 (dist W x.data.toList y.data.toList), .int .i64 (errn (ok3 W x.data.toList y.data.toList))]) ∧ IntsV w' v (bestL W x.data.toList y.data.toList) ∧ Below w.heap.size w w' := by
  have HN := hide hN
  have HB := hide (Box.start w W A n c)
  clear hN
  go_enter Try.func15, Try.ntmps15
  unfold wval
  go_upto_region 1 with fail
  generalize w.alloc (.cells #[.int .i64 W.ins, .int .i64 W.del, .int .i64 W.chg, .int .i64 W.swp, .slice A n c] 24) = w1 at *
  obtain ⟨U, hU, g, u0, rfl, hgu, hgi⟩ := cls w1
  have xs_0 := fun u => (((HB.out.blk.to (hgu u)).cell 0).trans (show _ = some (Value.int IntKind.i64 W.ins) from rfl))
  have xs_1 := fun u => (((HB.out.blk.to (hgu u)).cell 1).trans (show _ = some (Value.int IntKind.i64 W.del) from rfl))
  have xs_2 := fun u => (((HB.out.blk.to (hgu u)).cell 2).trans (show _ = some (Value.int IntKind.i64 W.chg) from rfl))
  have xs_3 := fun u => (((HB.out.blk.to (hgu u)).cell 3).trans (show _ = some (Value.int IntKind.i64 W.swp) from rfl))
  have xs_4 := fun u => (((HB.out.blk.to (hgu u)).cell 4).trans (show _ = some (Value.slice A n c) from rfl))
  have CV : ∀ u, Calls Try.prog 21 #[.agg #[.int .i64 W.ins, .int .i64 W.del, .int .i64 W.chg, .int .i64 W.swp, .slice A n c]] (g u) fun e w' => e = .returned (.bool W.valid) ∧ ∃ u', w' = g u' := fun u => cls_call hgu hgi (fun Wd hb => rvalid8_any W A n c X Wd (HN.out.below (below_to HB.out.bel (Nat.le_refl _) hb) hX0) (by have := (below_to HB.out.bel (Nat.le_refl _) hb).size; omega) hn) u
  have CX : ∀ u, Calls Try.prog 29 #[.string x] (g u) fun e w' => e = .returned (.bool (okText x.data.toList)) ∧ ∃ u', w' = g u' := fun u => cls_call hgu hgi (fun Wd hb => (refText_any x Wd hx).mono (fun e w' h => ⟨h.1, h.2 ▸ Below.refl _ _⟩)) u
  have CY : ∀ u, Calls Try.prog 29 #[.string y] (g u) fun e w' => e = .returned (.bool (okText y.data.toList)) ∧ ∃ u', w' = g u' := fun u => cls_call hgu hgi (fun Wd hb => (refText_any y Wd hy).mono (fun e w' h => ⟨h.1, h.2 ▸ Below.refl _ _⟩)) u
  cases hv : W.valid with
  | false =>
    rw [hv] at CV
    have HF := hide (ok3_n1 (W := W) (x := x.data.toList) (y := y.data.toList) hv)
    clear hv
    go_wp2_with (first | ((with_reducible refine (CV _).mono ?_); rintro e w' ⟨rfl, u, rfl⟩) | ((with_reducible refine (CX _).mono ?_); rintro e w' ⟨rfl, u, rfl⟩) | ((with_reducible refine (CY _).mono ?_); rintro e w' ⟨rfl, u, rfl⟩))
    go_ret3
    exact ⟨_, ret_three (best_f HF.out).2.1.symm (best_f HF.out).2.2.symm, by rw [(best_f HF.out).1]; exact IntsV.nil _, below_to HB.out.bel (Nat.le_refl _) (hgu _)⟩
  | true =>
    rw [hv] at CV
    cases hxt : okText x.data.toList with
    | false =>
      rw [hxt] at CX
      have HF := hide (ok3_n2 (W := W) (x := x.data.toList) (y := y.data.toList) hxt)
      clear hxt hv
      go_wp2_with (first | ((with_reducible refine (CV _).mono ?_); rintro e w' ⟨rfl, u, rfl⟩) | ((with_reducible refine (CX _).mono ?_); rintro e w' ⟨rfl, u, rfl⟩) | ((with_reducible refine (CY _).mono ?_); rintro e w' ⟨rfl, u, rfl⟩))
      go_ret3
      exact ⟨_, ret_three (best_f HF.out).2.1.symm (best_f HF.out).2.2.symm, by rw [(best_f HF.out).1]; exact IntsV.nil _, below_to HB.out.bel (Nat.le_refl _) (hgu _)⟩
    | true =>
      rw [hxt] at CX
      cases hyt : okText y.data.toList with
      | false =>
        rw [hyt] at CY
        have HF := hide (ok3_n3 (W := W) (x := x.data.toList) (y := y.data.toList) hyt)
        clear hyt hv hxt
        go_wp2_with (first | ((with_reducible refine (CV _).mono ?_); rintro e w' ⟨rfl, u, rfl⟩) | ((with_reducible refine (CX _).mono ?_); rintro e w' ⟨rfl, u, rfl⟩) | ((with_reducible refine (CY _).mono ?_); rintro e w' ⟨rfl, u, rfl⟩))
        go_ret3
        exact ⟨_, ret_three (best_f HF.out).2.1.symm (best_f HF.out).2.2.symm, by rw [(best_f HF.out).1]; exact IntsV.nil _, below_to HB.out.bel (Nat.le_refl _) (hgu _)⟩
      | true =>
        rw [hyt] at CY
        have HF := hide (ok3_yes hv hxt hyt)
        have HV := hide hv
        have hx120 : x.size ≤ 120 := by simpa using okText_len hxt
        have hy120 : y.size ≤ 120 := by simpa using okText_len hyt
        have HX := hide (okText_len hxt)
        have HY := hide (okText_len hyt)
        have HD := hide (Wt.isDist hv (okText_len hxt) (okText_len hyt))
        clear hv hxt hyt
        go_wp2_with (first | ((with_reducible refine (CV _).mono ?_); rintro e w' ⟨rfl, u, rfl⟩) | ((with_reducible refine (CX _).mono ?_); rintro e w' ⟨rfl, u, rfl⟩) | ((with_reducible refine (CY _).mono ?_); rintro e w' ⟨rfl, u, rfl⟩))
        have HBg := hide (below_to HB.out.bel (Nat.le_refl _) (hgu u))
        have HNg := hide (HN.out.below HBg.out hX0)
        have HXg : Hid (X ≤ (g u).heap.size) := by have := HBg.out.size; show _ ≤ _; omega
        have HBx := hide (HB.out.next (hgu u))
        clear CV CX CY xs_0 xs_1 xs_2 xs_3 xs_4 HB
        generalize g u = w3 at *
        clear hgu hgi
        refine (rtable_any W HV.out A n c X x y w3 HNg.out HXg.out hn hx120 hy120 _ HD.out).mono ?_
        rintro e w5 ⟨rfl, hF⟩
        have HDS := hide (dist_yes HF.out)
        have HL : Hid (bestL W x.data.toList y.data.toList = Wt.G W x.data.toList y.data.toList 0 0) := by show _ = _; unfold bestL; rw [HF.out]; rfl
        obtain ⟨i0, hi0, hz0, hz1, hz2⟩ := info_parts info_int
        have HFT := hide hF
        have HBT := hide (HBg.out.trans (hF.box.bel.mono HBg.out.size))
        have HBw := hide (HBx.out.next hF.box.bel)
        have HN5 := hide (HNg.out.below hF.box.bel HXg.out)
        have HX5 : Hid (X ≤ w5.heap.size) := by have := hF.box.bel.size; have := HXg.out; show _ ≤ _; omega
        clear hF HBx
        go_wp2_with fail
        go_loopw [10, 11, 12] (fun t10 t11 t12 wr => BsR wr w5 W x y t10 t11 t12) (fun _ t11 t12 _ => (x.size + y.size) - ((intOf t11).toNat + (intOf t12).toNat))
        case atStart => exact ⟨0, 0, [], rfl, rfl, by omega, by omega, by simp, rfl, ⟨by simp, .inl ⟨rfl, rfl⟩⟩, Below.refl _ _⟩
        case round =>
          obtain ⟨v, rfl⟩ : ∃ v : Value, v = u10 := ⟨_, rfl⟩
          obtain ⟨i, j, l, rfl, rfl, hrel⟩ := hrel
          have hi := hrel.hi
          have hj := hrel.hj
          have HR := hide hrel
          clear hrel
          go_upto_region 7 with fail
          go_cut [44] (fun z wx => ∃ b : Bool, z = .bool b ∧ (b = true → i < x.size ∨ j < y.size) ∧ (b = false → i = x.size ∧ j = y.size) ∧ BsRel wx w5 W x y v i j l)
          case first =>
            by_cases hix : i < x.size
            · have g1 : decide ((i : Int) < (x.size : Int)) = true := decide_eq_true (by omega)
              have g1' : decide (i < x.size) = true := decide_eq_true hix
              have H1 := hide hix
              clear hix
              go_wp2_with fail
              go_meet
              exact ⟨true, rfl, fun _ => .inl H1.out, fun h => (by cases h), HR.out⟩
            · have g1 : decide ((i : Int) < (x.size : Int)) = false := decide_eq_false (by omega)
              have g1' : decide (i < x.size) = false := decide_eq_false hix
              by_cases hjy : j < y.size
              · have g2 : decide ((j : Int) < (y.size : Int)) = true := decide_eq_true (by omega)
                have g2' : decide (j < y.size) = true := decide_eq_true hjy
                have H1 := hide hjy
                clear hix hjy
                go_wp2_with fail
                go_meet
                exact ⟨true, rfl, fun _ => .inr H1.out, fun h => (by cases h), HR.out⟩
              · have g2 : decide ((j : Int) < (y.size : Int)) = false := decide_eq_false (by omega)
                have g2' : decide (j < y.size) = false := decide_eq_false hjy
                have H1 : Hid (i = x.size ∧ j = y.size) := ⟨by omega, by omega⟩
                clear hix hjy
                go_wp2_with fail
                go_meet
                exact ⟨false, rfl, fun h => (by cases h), fun _ => H1.out, HR.out⟩
          case rest =>
            obtain ⟨b, rfl, hb1, hb2, hrel⟩ := hcut
            have HRc := hide hrel
            clear hrel HR
            generalize wc = w6 at *
            cases b with
            | false =>
              have H1 := hide (hb2 rfl)
              clear hb1 hb2
              have hG := HRc.out.path
              rw [Wt.G_end (by have := H1.out; simp; omega), List.append_nil] at hG
              have hO := HRc.out.own
              have HIV : Hid (IntsV w6 v (bestL W x.data.toList y.data.toList)) := by
                rw [HL.out, ← hG]
                exact IntsV.of_own hO
              obtain ⟨bR, q1, q2⟩ := (HFT.out.to HRc.out.bel).cells (i := 0) (j := 0) (Nat.zero_le _) (Nat.zero_le _) (Nat.zero_le _) (.inl (Nat.zero_le _))
              have HBE := hide (HBT.out.trans (HRc.out.bel.mono HBT.out.size))
              have HDV := hide HDS.out.1
              generalize W.D x.data.toList y.data.toList 0 0 = dv at *
              have s1 : (0 : Int) < (x.size : Int) + 1 := by omega
              have s2 : (0 : Int) < (y.size : Int) + 1 := by omega
              clear hG hO HRc H1
              go_wp2_with fail
              go_quiet (fail)
              go_wp2_with fail
              go_ret3
              exact ⟨_, ret_three HDV.out.symm HDS.out.2.symm, HIV.out, below_drewN HBE.out _⟩
            | true =>
              have hne : i < x.data.toList.length ∨ j < y.data.toList.length := by have := hb1 rfl; simpa using this
              have FK := hide (Wt.firstK_spec HV.out HX.out HY.out (show i ≤ x.data.toList.length by simpa using hi) (show j ≤ y.data.toList.length by simpa using hj) hne)
              have GR := hide (Wt.G_rec HV.out HX.out HY.out (show i ≤ x.data.toList.length by simpa using hi) (show j ≤ y.data.toList.length by simpa using hj) hne)
              generalize Wt.firstK W x.data.toList y.data.toList i j = K at FK GR
              clear hne hb1 hb2
              have H0 : Hid (∀ q, q < 1 → Wt.goodK W x.data.toList y.data.toList i j q = false) := fun q hq => by
                obtain rfl : q = 0 := by omega
                exact goodK0
              go_wp2_with fail
              go_loopw [10, 11, 12, 13] (fun t10 t11 t12 t13 wr => ∃ k : Nat, (1 ≤ k ∧ k ≤ 6) ∧ t13 = .int .i64 (k : Int) ∧ t10 = v ∧ t11 = .int .i64 (i : Int) ∧ t12 = .int .i64 (j : Int) ∧ (∀ q, q < k → Wt.goodK W x.data.toList y.data.toList i j q = false) ∧ BsRel wr w5 W x y v i j l) (fun _ _ _ t13 _ => 6 - (intOf t13).toNat)
              case atStart => exact ⟨1, by omega, rfl, rfl, rfl, rfl, H0.out, HRc.out⟩
              case round =>
                obtain ⟨k, hk, rfl, rfl, rfl, rfl, hmin, hrel⟩ := hrel
                clear HRc
                have hkK : k ≤ K := by
                  rcases Nat.lt_or_ge K k with h | h
                  · have h1 := hmin K h
                    rw [FK.out.2.2.1] at h1
                    cases h1
                  · exact h
                have hk6 : k < 6 := by have := FK.out.1; omega
                have HRk := hide hrel
                have Hmin := hide hmin
                obtain ⟨d0, d1, d2, d3, d4⟩ := (HBw.out.next hrel.bel).facts
                clear hmin hrel
                have t1 : decide ((k : Int) ≤ (5 : Int)) = true := decide_eq_true (by omega)
                obtain ⟨⟨sc, sa, sb⟩, hs⟩ : ∃ s, Wt.stp W x.data.toList y.data.toList i j k = s := ⟨_, rfl⟩
                have HSR := hide (stepR_k (W := W) (x := x.data.toList) (y := y.data.toList) (i := i) (j := j) hk.1 (by omega) hs)
                have CS := rstep_any W HV.out A n c X x y i j (k : Int) wr (HN5.out.below HRk.out.bel HX5.out) (by have := HRk.out.bel.size; have := HX5.out; omega) hn hi hj hx120 hy120
                by_cases hneg : sc < 0
                · have HV2 : Hid (stepR W x.data.toList y.data.toList i j (k : Int) = (0, 0, 0, false)) := by show _ = _; rw [HSR.out, if_pos hneg]
                  rw [HV2.out] at CS
                  have HG := hide (good_neg hs hneg)
                  have HM2 : Hid (∀ q, q < k + 1 → Wt.goodK W x.data.toList y.data.toList i j q = false) := fun q hq => by
                    rcases Nat.lt_or_ge q k with h | h
                    · exact Hmin.out q h
                    · obtain rfl : q = k := by omega
                      exact HG.out
                  unfold stepV at CS
                  clear hs hneg
                  go_wp2_with fail
                  refine CS.mono ?_
                  rintro e w7 ⟨rfl, hb⟩
                  have HR7 := hide (HRk.out.below hb)
                  clear hb CS HRk d0 d1 d2 d3 d4
                  go_wp2_with fail
                  go_quiet (fail)
                  have HR8 := hide (HR7.out.below (below_drewN (Below.refl _ _) nq))
                  go_wp2_with fail
                  go_roundw
                  case rel => exact ⟨k + 1, by omega, by go_num, rfl, rfl, rfl, HM2.out, HR8.out⟩
                  case measure => simp [intOf] <;> omega
                · have hfit := Wt.stp_fits HV.out (show i ≤ x.data.toList.length by simpa using hi) (show j ≤ y.data.toList.length by simpa using hj) hk6
                  rw [hs] at hfit
                  have hf : sc ≤ 1000 ∧ 0 ≤ sa ∧ 0 ≤ sb ∧ 0 < sa + sb ∧ i + sa ≤ x.size ∧ j + sb ≤ y.size := by
                    have := hfit.resolve_left hneg
                    simpa using this
                  clear hfit
                  obtain ⟨f1, f2, f3, f4, f5, f6⟩ := hf
                  obtain ⟨na, rfl⟩ := Int.eq_ofNat_of_zero_le f2
                  obtain ⟨nb, rfl⟩ := Int.eq_ofNat_of_zero_le f3
                  have hi2 : i + na ≤ x.size := by omega
                  have hj2 : j + nb ≤ y.size := by omega
                  have HV2 : Hid (stepR W x.data.toList y.data.toList i j (k : Int) = (sc, (na : Int), (nb : Int), true)) := by show _ = _; rw [HSR.out, if_neg hneg]
                  rw [HV2.out] at CS
                  unfold stepV at CS
                  have b1 := HD.out.lo (i + na) (j + nb)
                  have b2 := HD.out.hi (i + na) (j + nb) (by simpa using hi2) (by simpa using hj2)
                  obtain ⟨dv, hdv⟩ : ∃ dv, Wt.D W x.data.toList y.data.toList (i + na) (j + nb) = dv := ⟨_, rfl⟩
                  obtain ⟨dij, hdij⟩ : ∃ dij, Wt.D W x.data.toList y.data.toList i j = dij := ⟨_, rfl⟩
                  have HG := hide (good_iff hs hdv hdij)
                  have HS := hide hs
                  have HDVV := hide hdv
                  have HDIJ := hide hdij
                  rw [hdv] at b1 b2
                  have hsc : 0 ≤ sc := by omega
                  clear hs hdv hdij hneg
                  go_wp2_with fail
                  refine CS.mono ?_
                  rintro e w7 ⟨rfl, hb⟩
                  have HR7 := hide (HRk.out.below hb)
                  obtain ⟨bP, p1, p2⟩ := (HFT.out.to HR7.out.bel).cells (i := i + na) (j := j + nb) (Nat.zero_le _) hi2 hj2 (.inl (Nat.zero_le _))
                  obtain ⟨bQ, q1, q2⟩ := (HFT.out.to HR7.out.bel).cells (i := i) (j := j) (Nat.zero_le _) hi hj (.inl (Nat.zero_le _))
                  rw [HDVV.out] at p2
                  rw [HDIJ.out] at q2
                  clear hb CS HRk d0 d1 d2 d3 d4
                  obtain ⟨iz, hiz⟩ : ∃ z, i + na = z := ⟨_, rfl⟩
                  obtain ⟨jz, hjz⟩ : ∃ z, j + nb = z := ⟨_, rfl⟩
                  have ei : (i : Int) + (na : Int) = (iz : Int) := by omega
                  have ej : (j : Int) + (nb : Int) = (jz : Int) := by omega
                  rw [hiz] at p1
                  rw [hjz] at p2
                  have HIZ := hide hiz
                  have HJZ := hide hjz
                  have hizl : iz ≤ x.size := by omega
                  have hjzl : jz ≤ y.size := by omega
                  clear hiz hjz
                  have s1 : (0 : Int) ≤ (iz : Int) := by omega
                  have s2 : (iz : Int) < (x.size : Int) + 1 := by omega
                  have s3 : (0 : Int) ≤ (jz : Int) := by omega
                  have s4 : (jz : Int) < (y.size : Int) + 1 := by omega
                  have s5 : (0 : Int) ≤ (i : Int) := by omega
                  have s6 : (i : Int) < (x.size : Int) + 1 := by omega
                  have s7 : (0 : Int) ≤ (j : Int) := by omega
                  have s8 : (j : Int) < (y.size : Int) + 1 := by omega
                  have s9 : IntKind.i64.wrap (sc + dv) = sc + dv := IntWalk.i64_in _ (by omega)
                  have s10 : IntKind.i64.wrap ((i : Int) + (na : Int)) = (iz : Int) := by rw [ei]; exact IntWalk.i64_in _ (by omega)
                  have s11 : IntKind.i64.wrap ((j : Int) + (nb : Int)) = (jz : Int) := by rw [ej]; exact IntWalk.i64_in _ (by omega)
                  by_cases heq : sc + dv = dij
                  · have hbq : ((sc + dv) == dij) = true := by simp [heq]
                    have hgood : Wt.goodK W x.data.toList y.data.toList i j k = true := by rw [HG.out]; simp [hsc, heq]
                    obtain rfl : k = K := by
                      rcases Nat.lt_or_ge k K with h | h
                      · have h1 := FK.out.2.2.2 k h
                        rw [hgood] at h1; cases h1
                      · omega
                    have HGR : Hid (Wt.G W x.data.toList y.data.toList i j = (k : Int) :: Wt.G W x.data.toList y.data.toList (i + na) (j + nb)) := by
                      show _ = _
                      have h := GR.out
                      rw [HS.out] at h
                      simpa using h
                    clear hgood heq HG
                    go_wp2_with fail
                    go_quiet (fail)
                    have HR8 := hide (HR7.out.below (below_drewN (Below.refl _ _) nq))
                    clear s1 s2 s3 s4 s5 s6 s7 s8 s9 s10 s11 hbq p1 p2 q1 q2 HR7
                    generalize w7.drewN nq = w8 at *
                    have HLN : Hid (l.length ≤ 1000) := by have := HR8.out.len; show _ ≤ _; omega
                    have HSZ : Hid (w5.heap.size ≤ w8.heap.size) := HR8.out.bel.size
                    go_wp2_with (at_builtin; refine wpList_append_own _ rfl (.tmp 85) (.tmp 87) _ rfl w5.heap.size 3 i0 (.int .i64 0) 1 8 Try.underlying25 hi0 hz0 hz1 hz2 rfl (by omega) _ l.length (l.map (Value.int .i64)) rfl ?c0 ⟨_, 0, none⟩ 1 1 [.int .i64 (k : Int)] rfl rfl ?c1 ?c2 ?c4 ?c5 ?c3 ?_)
                    case c0 => exact HR8.out.own.alloc _
                    case c1 => exact one_new (by simp)
                    case c2 => intro u hu; rw [List.mem_singleton.1 hu]; rfl
                    case c4 => have := HLN.out; simp only [maxLen]; omega
                    case c5 => have := HLN.out; omega
                    case c3 => have := HSZ.out; simp; omega
                    intro v' w9 hown6 hgr6 _
                    have HB9 : Hid (Below w5.heap.size w5 w9) := (HR8.out.bel.alloc HSZ.out _).grown hgr6 (by have := HSZ.out; simp; omega) (fun b hb => (own_block HR8.out.own b hb).1)
                    have HR9 : Hid (BsRel w9 w5 W x y v' iz jz (l ++ [(k : Int)])) := by
                      have := HR8.out.step (sc := 0) HGR.out hi2 hj2 (by omega) hown6 HB9.out
                      rw [HIZ.out, HJZ.out] at this
                      exact this
                    clear hown6 hgr6 HR8
                    have hpz : i + j < iz + jz := by have := HIZ.out; have := HJZ.out; omega
                    go_wp2_with fail
                    go_roundw
                    case rel => exact ⟨iz, jz, l ++ [(k : Int)], vint (by omega), vint (by omega), HR9.out⟩
                    case measure => simp [intOf] <;> omega
                  · have hbq : ((sc + dv) == dij) = false := by simp [heq]
                    have hbad : Wt.goodK W x.data.toList y.data.toList i j k = false := by rw [HG.out]; simp [heq]
                    have HM2 : Hid (∀ q, q < k + 1 → Wt.goodK W x.data.toList y.data.toList i j q = false) := fun q hq => by
                      rcases Nat.lt_or_ge q k with h | h
                      · exact Hmin.out q h
                      · obtain rfl : q = k := by omega
                        exact hbad
                    clear hbad heq HG
                    go_wp2_with fail
                    go_quiet (fail)
                    have HR8 := hide (HR7.out.below (below_drewN (Below.refl _ _) nq))
                    go_wp2_with fail
                    go_roundw
                    case rel => exact ⟨k + 1, by omega, by go_num, rfl, rfl, rfl, HM2.out, HR8.out⟩
                    case measure => simp [intOf] <;> omega
end Go.Proofs.Ytnpdhbagfkilkaa

/- The plain side: ways to edit, one behind the other, backwards, with other weights; the tables of beginnings. -/
set_option linter.unusedVariables false
set_option linter.unusedSimpArgs false
namespace Go.Proofs.Ytnpdhbagfkilkaa
namespace Wt

theorem Al.app {W : Wt} {x y x' y' : List UInt8} {c c' : Int} (h : Al W x y c) (h' : Al W x' y' c') : Al W (x ++ x') (y ++ y') (c + c') := by
  induction h with
  | nil => simpa using h'
  | same a _ ih => exact Al.same a ih
  | chg a b hab _ ih => rw [Int.add_assoc]; exact Al.chg a b hab ih
  | ins b _ ih => rw [Int.add_assoc]; exact Al.ins b ih
  | del a _ ih => rw [Int.add_assoc]; exact Al.del a ih
  | swp a b hab _ ih => rw [Int.add_assoc]; exact Al.swp a b hab ih
theorem Al.cast {W : Wt} {x y : List UInt8} {c c' : Int} (h : Al W x y c) (e : c = c') : Al W x y c' := e ▸ h
theorem Al.refl (W : Wt) : ∀ x : List UInt8, Al W x x 0
  | [] => Al.nil
  | a :: x => Al.same a (Al.refl W x)
theorem Al.inss (W : Wt) : ∀ y : List UInt8, Al W [] y (W.ins * y.length)
  | [] => by simpa using Al.nil
  | a :: y => (Al.ins a (Al.inss W y)).cast (by simp [Int.mul_add]; omega)
theorem Al.lo {W : Wt} (hW : W.valid = true) {x y : List UInt8} {c : Int} (h : Al W x y c) : 0 ≤ c := by
  have hv := valid_num hW
  induction h with
  | nil => omega
  | same _ _ ih => exact ih
  | chg a b _ _ ih =>
    have : 0 ≤ W.cc a b := by
      unfold cc
      cases hl : look W.near (a.toNat : Int) (b.toNat : Int) with
      | none => simp; omega
      | some c => simpa using (look_le hW hl).1
    omega
  | ins _ _ ih => omega
  | del _ _ ih => omega
  | swp _ _ _ _ ih => omega

theorem look_symm (l : List (Int × Int × Int)) (a b : Int) : look l a b = look l b a := by
  unfold look
  congr 1
  congr 1
  funext n
  rw [Bool.or_comm]
theorem cc_symm (W : Wt) (a b : UInt8) : W.cc a b = W.cc b a := by unfold cc; rw [look_symm]
/-- with Insert and Delete exchanged, the other way round -/
def back (W : Wt) : Wt := { W with ins := W.del, del := W.ins }
theorem Al.symm {W : Wt} {x y : List UInt8} {c : Int} (h : Al W x y c) : Al W.back y x c := by
  induction h with
  | nil => exact Al.nil
  | same a _ ih => exact Al.same a ih
  | chg a b hab _ ih => rw [cc_symm]; exact Al.chg b a (Ne.symm hab) ih
  | ins b _ ih => exact Al.del (W := W.back) b ih
  | del a _ ih => exact Al.ins (W := W.back) a ih
  | swp a b hab _ ih => exact Al.swp b a (Ne.symm hab) ih

/-- backwards -/
theorem Al.rev {W : Wt} {x y : List UInt8} {c : Int} (h : Al W x y c) : Al W x.reverse y.reverse c := by
  induction h with
  | nil => exact Al.nil
  | same a _ ih => simpa using (ih.app (Al.same a Al.nil))
  | chg a b hab _ ih => simpa [Int.add_comm] using (ih.app (Al.chg a b hab Al.nil))
  | ins b _ ih => simpa [Int.add_comm] using (ih.app (Al.ins b Al.nil))
  | del a _ ih => simpa [Int.add_comm] using (ih.app (Al.del a Al.nil))
  | swp a b hab _ ih => simpa [Int.add_comm] using (ih.app (Al.swp b a (Ne.symm hab) Al.nil))

/-- the ways end in one of the steps -/
inductive Last (W : Wt) (x y : List UInt8) (c : Int) : Prop
  | nil : x = [] → y = [] → c = 0 → Last W x y c
  | same (a : UInt8) (x' y' : List UInt8) : x = x' ++ [a] → y = y' ++ [a] → Al W x' y' c → Last W x y c
  | chg (a b : UInt8) (x' y' : List UInt8) (d : Int) : x = x' ++ [a] → y = y' ++ [b] → a ≠ b → Al W x' y' d → c = d + W.cc a b → Last W x y c
  | ins (b : UInt8) (y' : List UInt8) (d : Int) : y = y' ++ [b] → Al W x y' d → c = d + W.ins → Last W x y c
  | del (a : UInt8) (x' : List UInt8) (d : Int) : x = x' ++ [a] → Al W x' y d → c = d + W.del → Last W x y c
  | swp (a b : UInt8) (x' y' : List UInt8) (d : Int) : x = x' ++ [a, b] → y = y' ++ [b, a] → a ≠ b → Al W x' y' d → c = d + W.swp → Last W x y c
theorem rev_cons {x l : List UInt8} {a : UInt8} (h : a :: l = x.reverse) : x = l.reverse ++ [a] := by
  have := congrArg List.reverse h
  simpa using this.symm
theorem Al.last {W : Wt} {x y : List UInt8} {c : Int} (h : Al W x y c) : Last W x y c := by
  have h1 := h.rev
  generalize hx : x.reverse = rx at h1
  generalize hy : y.reverse = ry at h1
  cases h1 with
  | nil => exact .nil (by simpa using hx) (by simpa using hy) rfl
  | @same a x1 y1 c h2 => exact .same a x1.reverse y1.reverse (rev_cons hx.symm) (rev_cons hy.symm) h2.rev
  | @chg a b x1 y1 c hab h2 => exact .chg a b x1.reverse y1.reverse c (rev_cons hx.symm) (rev_cons hy.symm) hab h2.rev (by omega)
  | @ins b x1 y1 c h2 => exact .ins b y1.reverse c (rev_cons hy.symm) (by have := h2.rev; rw [← hx] at this; simpa using this) (by omega)
  | @del a x1 y1 c h2 => exact .del a x1.reverse c (rev_cons hx.symm) (by have := h2.rev; rw [← hy] at this; simpa using this) (by omega)
  | @swp a b x1 y1 c hab h2 =>
    refine .swp b a x1.reverse y1.reverse c ?_ ?_ (Ne.symm hab) h2.rev (by omega)
    · have := rev_cons hx.symm; simpa using this
    · have := rev_cons hy.symm; simpa using this

/-- a way to a text and a rest is cut where the rest begins; or a swap lies over the cut -/
theorem Al.split {W : Wt} {x q : List UInt8} {c : Int} (h : Al W x q c) : ∀ (p r : List UInt8), q = p ++ r →
    (∃ x1 x2 c1 c2, x = x1 ++ x2 ∧ Al W x1 p c1 ∧ Al W x2 r c2 ∧ c = c1 + c2) ∨
    (∃ x1 a b x2 p' r' c1 c2, x = x1 ++ a :: b :: x2 ∧ p = p' ++ [b] ∧ r = a :: r' ∧ a ≠ b ∧ Al W x1 p' c1 ∧ Al W x2 r' c2 ∧ c = c1 + W.swp + c2) := by
  induction h with
  | nil =>
    intro p r e
    have e1 : p = [] := (List.append_eq_nil_iff.1 e.symm).1
    have e2 : r = [] := (List.append_eq_nil_iff.1 e.symm).2
    subst e1 e2
    exact .inl ⟨[], [], 0, 0, rfl, Al.nil, Al.nil, rfl⟩
  | @same a x y c h ih =>
    intro p r e
    cases p with
    | nil => exact .inl ⟨[], a :: x, 0, c, rfl, Al.nil, by rw [List.nil_append] at e; rw [← e]; exact Al.same a h, by omega⟩
    | cons b p =>
      rw [List.cons_append] at e
      injection e with e1 e2
      subst e1
      rcases ih p r e2 with ⟨x1, x2, c1, c2, rfl, h1, h2, rfl⟩ | ⟨x1, u, v, x2, p', r', c1, c2, rfl, rfl, rfl, hne, h1, h2, rfl⟩
      · exact .inl ⟨a :: x1, x2, c1, c2, rfl, Al.same a h1, h2, rfl⟩
      · exact .inr ⟨a :: x1, u, v, x2, a :: p', r', c1, c2, rfl, rfl, rfl, hne, Al.same a h1, h2, rfl⟩
  | @chg a b x y c hab h ih =>
    intro p r e
    cases p with
    | nil => exact .inl ⟨[], a :: x, 0, _, rfl, Al.nil, by rw [List.nil_append] at e; rw [← e]; exact Al.chg a b hab h, by omega⟩
    | cons b' p =>
      rw [List.cons_append] at e
      injection e with e1 e2
      subst e1
      rcases ih p r e2 with ⟨x1, x2, c1, c2, rfl, h1, h2, rfl⟩ | ⟨x1, u, v, x2, p', r', c1, c2, rfl, rfl, rfl, hne, h1, h2, rfl⟩
      · exact .inl ⟨a :: x1, x2, W.cc a b + c1, c2, rfl, Al.chg a b hab h1, h2, by omega⟩
      · exact .inr ⟨a :: x1, u, v, x2, b :: p', r', W.cc a b + c1, c2, rfl, rfl, rfl, hne, Al.chg a b hab h1, h2, by omega⟩
  | @ins b x y c h ih =>
    intro p r e
    cases p with
    | nil => exact .inl ⟨[], x, 0, _, rfl, Al.nil, by rw [List.nil_append] at e; rw [← e]; exact Al.ins b h, by omega⟩
    | cons b' p =>
      rw [List.cons_append] at e
      injection e with e1 e2
      subst e1
      rcases ih p r e2 with ⟨x1, x2, c1, c2, rfl, h1, h2, rfl⟩ | ⟨x1, u, v, x2, p', r', c1, c2, rfl, rfl, rfl, hne, h1, h2, rfl⟩
      · exact .inl ⟨x1, x2, W.ins + c1, c2, rfl, Al.ins b h1, h2, by omega⟩
      · exact .inr ⟨x1, u, v, x2, b :: p', r', W.ins + c1, c2, rfl, rfl, rfl, hne, Al.ins b h1, h2, by omega⟩
  | @del a x y c h ih =>
    intro p r e
    rcases ih p r e with ⟨x1, x2, c1, c2, rfl, h1, h2, rfl⟩ | ⟨x1, u, v, x2, p', r', c1, c2, rfl, rfl, rfl, hne, h1, h2, rfl⟩
    · exact .inl ⟨a :: x1, x2, W.del + c1, c2, rfl, Al.del a h1, h2, by omega⟩
    · exact .inr ⟨a :: x1, u, v, x2, p', r', W.del + c1, c2, rfl, rfl, rfl, hne, Al.del a h1, h2, by omega⟩
  | @swp a b x y c hab h ih =>
    intro p r e
    cases p with
    | nil => exact .inl ⟨[], a :: b :: x, 0, _, rfl, Al.nil, by rw [List.nil_append] at e; rw [← e]; exact Al.swp a b hab h, by omega⟩
    | cons b' p =>
      rw [List.cons_append] at e
      injection e with e1 e2
      subst e1
      cases p with
      | nil =>
        rw [List.nil_append] at e2
        exact .inr ⟨[], a, b, x, [], y, 0, c, rfl, rfl, e2.symm, hab, Al.nil, h, by omega⟩
      | cons a' p =>
        rw [List.cons_append] at e2
        injection e2 with e3 e4
        subst e3
        rcases ih p r e4 with ⟨x1, x2, c1, c2, rfl, h1, h2, rfl⟩ | ⟨x1, u, v, x2, p', r', c1, c2, rfl, rfl, rfl, hne, h1, h2, rfl⟩
        · exact .inl ⟨a :: b :: x1, x2, W.swp + c1, c2, rfl, Al.swp a b hab h1, h2, by omega⟩
        · exact .inr ⟨a :: b :: x1, u, v, x2, b :: a :: p', r', W.swp + c1, c2, rfl, rfl, rfl, hne, Al.swp a b hab h1, h2, by omega⟩

/-- the distance of two texts, whatever bytes they have (at most 120 each) -/
def dl (W : Wt) (x y : List UInt8) : Int := D W x y 0 0
theorem dl_al {W : Wt} (hW : W.valid = true) {x y : List UInt8} (hx : x.length ≤ 120) (hy : y.length ≤ 120) : Al W x y (dl W x y) := by
  exact Al_D hW hx hy _ 0 0 (Nat.le_refl _) (by omega) (by omega)
theorem dl_min {W : Wt} (hW : W.valid = true) {x y : List UInt8} (hx : x.length ≤ 120) (hy : y.length ≤ 120) {c : Int} (h : Al W x y c) : dl W x y ≤ c :=
  D_min hW hx hy h 0 0 (by simp) (by simp) (by omega) (by omega)
theorem dl_lo {W : Wt} (hW : W.valid = true) {x y : List UInt8} (hx : x.length ≤ 120) (hy : y.length ≤ 120) : 0 ≤ dl W x y := (isDist hW hx hy).lo 0 0
theorem dl_hi {W : Wt} (hW : W.valid = true) {x y : List UInt8} (hx : x.length ≤ 120) (hy : y.length ≤ 120) : dl W x y ≤ 1000000 := (isDist hW hx hy).hi 0 0 (by omega) (by omega)
end Wt
end Go.Proofs.Ytnpdhbagfkilkaa
