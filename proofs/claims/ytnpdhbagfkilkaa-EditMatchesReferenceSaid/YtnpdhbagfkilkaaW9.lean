/- Walks: edit.Distance. -/
import Derived.Test.YtnpdhbagfkilkaaW8
import Derived.Test.YtnpdhbagfkilkaaPlain3
set_option linter.unusedVariables false
set_option linter.unusedSimpArgs false
namespace Go.Proofs.Ytnpdhbagfkilkaa
open Go.RowKit

def wCells (W : Wt) (A : Option Addr) (n c : Nat) : Array Value := #[.int .i64 W.ins, .int .i64 W.del, .int .i64 W.chg, .int .i64 W.swp, .slice A n c]
/-- the weights' box, the first block that the call made -/
structure Box (wc w : World) (W : Wt) (A : Option Addr) (n c : Nat) : Prop where
  blk : Blk wc w.heap.size 24 (wCells W A n c)
  bel : Below w.heap.size w wc
theorem Box.start (w : World) (W : Wt) (A : Option Addr) (n c : Nat) : Box (w.alloc (.cells #[.int .i64 W.ins, .int .i64 W.del, .int .i64 W.chg, .int .i64 W.swp, .slice A n c] 24)) w W A n c :=
  ⟨Blk.new _ _ _, (Below.refl _ _).alloc (Nat.le_refl _) _⟩
theorem Box.next {wc w w' : World} {W : Wt} {A : Option Addr} {n c : Nat} (h : Box wc w W A n c) (hb : Below wc.heap.size wc w') : Box w' w W A n c :=
  ⟨h.blk.below hb h.blk.lt, h.bel.trans (hb.mono h.bel.size)⟩
theorem Box.facts {wc w : World} {W : Wt} {A : Option Addr} {n c : Nat} (h : Box wc w W A n c) :
    wc.cell? ⟨w.heap.size, 0, none⟩ = some (.int .i64 W.ins) ∧ wc.cell? ⟨w.heap.size, 1, none⟩ = some (.int .i64 W.del) ∧ wc.cell? ⟨w.heap.size, 2, none⟩ = some (.int .i64 W.chg) ∧ wc.cell? ⟨w.heap.size, 3, none⟩ = some (.int .i64 W.swp) ∧ wc.cell? ⟨w.heap.size, 4, none⟩ = some (.slice A n c) :=
  ⟨h.blk.cell 0, h.blk.cell 1, h.blk.cell 2, h.blk.cell 3, h.blk.cell 4⟩
theorem OpenRel.ed {wr w : World} {W : Wt} {A : Option Addr} {n c : Nat} {x y : ByteArray} (h : OpenRel wr w W A n c x y n) (hn : W.near.length = n) : Ed wr (w.heap.size + 2) (w.heap.size + 1) W A n c x y :=
  ⟨h.blk, by have := h.map; rwa [List.take_of_length_le (by omega)] at this⟩
theorem wval_eq (W : Wt) (A : Option Addr) (n c : Nat) : wval W A n c = .agg #[.int .i64 W.ins, .int .i64 W.del, .int .i64 W.chg, .int .i64 W.swp, .slice A n c] := rfl

theorem ok3_f1 {W : Wt} {x y : List UInt8} (h : W.valid = false) : dist W x y = 0 ∧ errn (ok3 W x y) = 1 := by simp [dist, ok3, errn, h]
theorem ok3_f2 {W : Wt} {x y : List UInt8} (h : okText x = false) : dist W x y = 0 ∧ errn (ok3 W x y) = 1 := by simp [dist, ok3, errn, h]
theorem ok3_f3 {W : Wt} {x y : List UInt8} (h : okText y = false) : dist W x y = 0 ∧ errn (ok3 W x y) = 1 := by simp [dist, ok3, errn, h]
theorem ok3_t {W : Wt} {x y : List UInt8} (h1 : W.valid = true) (h2 : okText x = true) (h3 : okText y = true) : dist W x y = W.D x y 0 0 ∧ errn (ok3 W x y) = 0 := by simp [dist, ok3, errn, h1, h2, h3]
theorem ret_two {k j : IntKind} {a b c d : Int} (h1 : a = c) (h2 : b = d) : Ending.returned (.tuple #[.int k a, .int j b]) = .returned (.tuple #[.int k c, .int j d]) := by rw [h1, h2]

set_option maxHeartbeats 1000000 in
theorem distance_any (W : Wt) (A : Option Addr) (n c X : Nat) (x y : ByteArray) (w : World) (hN : Near w X A n W.near) (hX : X ≤ w.heap.size) (hn : n ≤ 140737488355328) (hx : x.size ≤ maxLen) (hy : y.size ≤ maxLen) :
    Calls Try.prog 12 #[wval W A n c, .string x, .string y] w fun e w' => e = .returned (.tuple #[.int .i64 (dist W x.data.toList y.data.toList), .int .i64 (errn (ok3 W x.data.toList y.data.toList))]) ∧ Below w.heap.size w w' := by
  have HN := hide hN
  have HB := hide (Box.start w W A n c)
  clear hN
  cases hv : W.valid
  · have HF := hide (ok3_f1 (W := W) (x := x.data.toList) (y := y.data.toList) hv)
    go_enter Try.func12, Try.ntmps12
    unfold wval
    go_wp2_with (go_at_call 20; rw [← wval_eq]; refine (valid_try W A n c X _ (by exact HN.out.below HB.out.bel hX) (by simp; omega) hn).mono ?_; rintro e w1 ⟨rfl, hb⟩; have HT := hide (HB.out.next hb); clear HB hb; have HB := HT; clear HT)
    go_ret2
    exact ⟨ret_two HF.out.1.symm HF.out.2.symm, HB.out.bel⟩
  cases hxt : okText x.data.toList
  · have HF := hide (ok3_f2 (W := W) (x := x.data.toList) (y := y.data.toList) hxt)
    go_enter Try.func12, Try.ntmps12
    unfold wval
    go_wp2_with (first
      | (go_at_call 20; rw [← wval_eq]; refine (valid_try W A n c X _ (by exact HN.out.below HB.out.bel hX) (by simp; omega) hn).mono ?_; rintro e w1 ⟨rfl, hb⟩; have HT := hide (HB.out.next hb); clear HB hb; have HB := HT; clear HT)
      | (go_at_call 26; refine (isText_any _ _ (by assumption)).mono ?_; rintro e w1 ⟨rfl, hb⟩; have HT := hide (HB.out.next hb); clear HB hb; have HB := HT; clear HT))
    go_ret2
    exact ⟨ret_two HF.out.1.symm HF.out.2.symm, HB.out.bel⟩
  cases hyt : okText y.data.toList
  · have HF := hide (ok3_f3 (W := W) (x := x.data.toList) (y := y.data.toList) hyt)
    go_enter Try.func12, Try.ntmps12
    unfold wval
    go_wp2_with (first
      | (go_at_call 20; rw [← wval_eq]; refine (valid_try W A n c X _ (by exact HN.out.below HB.out.bel hX) (by simp; omega) hn).mono ?_; rintro e w1 ⟨rfl, hb⟩; have HT := hide (HB.out.next hb); clear HB hb; have HB := HT; clear HT)
      | (go_at_call 26; refine (isText_any _ _ (by assumption)).mono ?_; rintro e w1 ⟨rfl, hb⟩; have HT := hide (HB.out.next hb); clear HB hb; have HB := HT; clear HT))
    go_ret2
    exact ⟨ret_two HF.out.1.symm HF.out.2.symm, HB.out.bel⟩
  have HF := hide (ok3_t (W := W) (x := x.data.toList) (y := y.data.toList) hv hxt hyt)
  have HV := hide hv
  have hx120 : x.size ≤ 120 := by simpa using okText_len hxt
  have hy120 : y.size ≤ 120 := by simpa using okText_len hyt
  have HD := hide (Wt.isDist hv (okText_len hxt) (okText_len hyt))
  go_enter Try.func12, Try.ntmps12
  unfold wval
  go_wp2_with (first
    | (go_at_call 20; rw [← wval_eq]; refine (valid_try W A n c X _ (by exact HN.out.below HB.out.bel hX) (by simp; omega) hn).mono ?_; rintro e w1 ⟨rfl, hb⟩; have HT := hide (HB.out.next hb); clear HB hb; have HB := HT; clear HT)
    | (go_at_call 26; refine (isText_any _ _ (by assumption)).mono ?_; rintro e w1 ⟨rfl, hb⟩; have HT := hide (HB.out.next hb); clear HB hb; have HB := HT; clear HT; obtain ⟨d0, d1, d2, d3, d4⟩ := HB.out.facts)
    | (go_at_call 27; rw [← wval_eq]; refine (open_any W HV.out x y A n c X _ (by exact HN.out.below HB.out.bel hX) (by have := HB.out.bel.size; omega)).mono ?_; rintro e w4 ⟨rfl, ho⟩; have HO := hide ho; clear ho)
    | (go_at_call 28; refine (table_any W HV.out x y A n c _ _ _ (HO.out.ed HN.out.1) hx120 hy120 _ HD.out).mono ?_; rintro e w5 ⟨rfl, hf⟩; have g1 := hf.cells (i := 0) (j := 0) (by omega) (by omega) (by omega); obtain ⟨g1, g2⟩ := g1; simp only [Nat.add_zero] at g1 g2; have HBB := hide ((HB.out.bel.trans (HO.out.bel.mono HB.out.bel.size)).trans (hf.bel.mono (Nat.le_trans HB.out.bel.size HO.out.bel.size))); clear hf))
  go_ret2
  exact ⟨ret_two HF.out.1.symm HF.out.2.symm, HBB.out⟩
end Go.Proofs.Ytnpdhbagfkilkaa
