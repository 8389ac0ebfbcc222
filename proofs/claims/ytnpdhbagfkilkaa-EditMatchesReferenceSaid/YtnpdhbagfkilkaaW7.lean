/- Walks: the editor's table. -/
import Derived.Test.YtnpdhbagfkilkaaW6
set_option linter.unusedVariables false
set_option linter.unusedSimpArgs false
namespace Go.Proofs.Ytnpdhbagfkilkaa
open Go.RowKit

/-- while the rows are laid -/
structure RowsRel (wr w : World) (g m : Nat) (W : Wt) (A : Option Addr) (n c : Nat) (x y : ByteArray) (k : Nat) : Prop where
  grid : Grid wr w.heap.size (x.size + 1) (y.size + 1) k (fun _ _ => 0)
  size : wr.heap.size = w.heap.size + 1 + k
  bel : Below w.heap.size w wr
  ed : Ed wr g m W A n c x y
theorem RowsRel.start {w : World} {g m : Nat} {W : Wt} {A : Option Addr} {n c : Nat} {x y : ByteArray} (h : Ed w g m W A n c x y) :
    RowsRel (w.alloc (.cells (madeCells #[.slice none 0 0] (x.size + 1)) 25)) w g m W A n c x y 0 := by
  have hb : Below w.heap.size w (w.alloc (.cells (madeCells #[.slice none 0 0] (x.size + 1)) 25)) := (Below.refl _ _).alloc (Nat.le_refl _) _
  refine ⟨⟨?_, fun i hi => by omega⟩, by simp, hb, h.below hb h.blk.lt h.map.lt⟩
  rw [slots_made w.heap.size _ (y.size + 1)]
  exact Blk.new _ _ _
theorem RowsRel.next {wr w : World} {g m : Nat} {W : Wt} {A : Option Addr} {n c : Nat} {x y : ByteArray} {k : Nat} (h : RowsRel wr w g m W A n c x y k) (hk : k < x.size + 1) (hg : g < w.heap.size) (hm : m < w.heap.size) :
    RowsRel ((wr.setCell ⟨w.heap.size, k, none⟩ (.slice (some ⟨wr.heap.size, 0, none⟩) (y.size + 1) (y.size + 1))).alloc (.cells (madeCells #[.int .i64 0] (y.size + 1)) 3)) w g m W A n c x y (k + 1) := by
  have hs := h.size
  have hsz : (wr.setCell ⟨w.heap.size, k, none⟩ (.slice (some ⟨wr.heap.size, 0, none⟩) (y.size + 1) (y.size + 1))).heap.size = wr.heap.size := by simp [World.setCell]
  have hb1 : Below w.heap.size wr (wr.setCell ⟨w.heap.size, k, none⟩ (.slice (some ⟨wr.heap.size, 0, none⟩) (y.size + 1) (y.size + 1))) := (Below.refl _ _).setCell (p := ⟨w.heap.size, k, none⟩) (Nat.le_refl _) _
  have hb := hb1.alloc (by rw [hsz, hs]; omega) (.cells (madeCells #[.int .i64 0] (y.size + 1)) 3)
  refine ⟨⟨?_, fun i hi => ?_⟩, by simp [hsz, hs]; omega, h.bel.trans hb, h.ed.below hb hg hm⟩
  · have := (h.grid.top.set_ k (.slice (some ⟨wr.heap.size, 0, none⟩) (y.size + 1) (y.size + 1))).alloc (.cells (madeCells #[.int .i64 0] (y.size + 1)) 3)
    rw [hs, slots_set] at this
    rw [hs]
    exact this
  · by_cases e : i = k
    · subst e
      have := Blk.new (wr.setCell ⟨w.heap.size, i, none⟩ (.slice (some ⟨wr.heap.size, 0, none⟩) (y.size + 1) (y.size + 1))) 3 (madeCells #[.int .i64 0] (y.size + 1))
      rw [hsz, rowArr_made] at this
      rw [rowArr_made]
      rw [hs] at this ⊢
      exact this
    · exact ((h.grid.row i (by omega)).far (by show w.heap.size + 1 + i ≠ w.heap.size; omega) _).alloc _

/-- while the table is filled: rows from q on, and the row before from p on, are done -/
structure FillRel (wr w : World) (g m : Nat) (W : Wt) (A : Option Addr) (n c : Nat) (x y : ByteArray) (D : Nat → Nat → Int) (q p : Nat) : Prop where
  grid : ∃ f, Grid wr w.heap.size (x.size + 1) (y.size + 1) (x.size + 1) f ∧ ∀ i j, i ≤ x.size → j ≤ y.size → (q ≤ i ∨ (i + 1 = q ∧ p ≤ j)) → f i j = D i j
  size : w.heap.size + 1 + (x.size + 1) ≤ wr.heap.size
  bel : Below w.heap.size w wr
  ed : Ed wr g m W A n c x y
theorem FillRel.below {wr w' w : World} {g m : Nat} {W : Wt} {A : Option Addr} {n c : Nat} {x y : ByteArray} {D : Nat → Nat → Int} {q p : Nat} (h : FillRel wr w g m W A n c x y D q p) (hb : Below wr.heap.size wr w') (hg : g < w.heap.size) (hm : m < w.heap.size) :
    FillRel w' w g m W A n c x y D q p := by
  obtain ⟨f, hf, hd⟩ := h.grid
  exact ⟨⟨f, hf.below hb h.size, hd⟩, Nat.le_trans h.size hb.size, h.bel.trans (hb.mono h.bel.size), h.ed.below hb (Nat.lt_of_lt_of_le hg h.bel.size) (Nat.lt_of_lt_of_le hm h.bel.size)⟩
theorem FillRel.cells {wr w : World} {g m : Nat} {W : Wt} {A : Option Addr} {n c : Nat} {x y : ByteArray} {D : Nat → Nat → Int} {q p : Nat} (h : FillRel wr w g m W A n c x y D q p) {i j : Nat} (hi : i ≤ x.size) (hj : j ≤ y.size) (hq : q ≤ i ∨ (i + 1 = q ∧ p ≤ j)) :
    wr.cell? ⟨w.heap.size, i, none⟩ = some (.slice (some ⟨w.heap.size + 1 + i, 0, none⟩) (y.size + 1) (y.size + 1)) ∧ wr.cell? ⟨w.heap.size + 1 + i, j, none⟩ = some (.int .i64 (D i j)) := by
  obtain ⟨f, hf, hd⟩ := h.grid
  refine ⟨hf.slot (by omega) (by omega), ?_⟩
  rw [hf.cell (by omega) (by omega), hd i j hi hj hq]
theorem FillRel.place {wr w : World} {g m : Nat} {W : Wt} {A : Option Addr} {n c : Nat} {x y : ByteArray} {D : Nat → Nat → Int} {q p : Nat} (h : FillRel wr w g m W A n c x y D q p) {i j : Nat} (hi : i ≤ x.size) (hj : j ≤ y.size) :
    wr.cell? ⟨w.heap.size, i, none⟩ = some (.slice (some ⟨w.heap.size + 1 + i, 0, none⟩) (y.size + 1) (y.size + 1)) ∧ (∃ v, wr.cell? ⟨w.heap.size + 1 + i, j, none⟩ = some (.int .i64 v)) ∧ wr.frozen? ⟨w.heap.size + 1 + i, j, none⟩ = false := by
  obtain ⟨f, hf, hd⟩ := h.grid
  exact ⟨hf.slot (by omega) (by omega), ⟨_, hf.cell (by omega) (by omega)⟩, (hf.row i (by omega)).frozen _⟩
theorem vint {k : IntKind} {a b : Int} (h : a = b) : Value.int k a = Value.int k b := by rw [h]
/-- the best of the first k steps -/
def bestOf (W : Wt) (x y : ByteArray) (D : Nat → Nat → Int) (i j k : Nat) : Int := ((W.steps x.data.toList y.data.toList i j).take k).foldl (Wt.bestStep D i j) (-1)
theorem bestOf_zero (W : Wt) (x y : ByteArray) (D : Nat → Nat → Int) (i j : Nat) : bestOf W x y D i j 0 = -1 := rfl
theorem steps_length (W : Wt) (x y : List UInt8) (i j : Nat) : (W.steps x y i j).length = 6 := rfl
theorem bestOf_succ {W : Wt} {x y : ByteArray} {D : Nat → Nat → Int} {i j k : Nat} {s : Int × Int × Int} (h : (W.steps x.data.toList y.data.toList i j)[k]? = some s) : bestOf W x y D i j (k + 1) = Wt.bestStep D i j (bestOf W x y D i j k) s := by
  have hk : k < (W.steps x.data.toList y.data.toList i j).length := (List.getElem?_eq_some_iff.1 h).1
  have he : (W.steps x.data.toList y.data.toList i j)[k] = s := (List.getElem?_eq_some_iff.1 h).2
  unfold bestOf
  rw [List.take_succ_eq_append_getElem hk, List.foldl_append, he]
  rfl
theorem bestOf_six {W : Wt} {x y : ByteArray} {D : Nat → Nat → Int} (hD : W.IsDist x.data.toList y.data.toList D) {i j : Nat} (hi : i ≤ x.size) (hj : j ≤ y.size) : max (bestOf W x y D i j 6) 0 = D i j := by
  have := hD.rec_ i j D (by simpa using hi) (by simpa using hj) (fun _ _ _ _ _ _ _ => rfl)
  exact this
theorem FillRel.put {wr w : World} {g m : Nat} {W : Wt} {A : Option Addr} {n c : Nat} {x y : ByteArray} {D : Nat → Nat → Int} {i j : Nat} (h : FillRel wr w g m W A n c x y D (i + 1) (j + 1)) (hi : i ≤ x.size) (hg : g < w.heap.size) (hm : m < w.heap.size) {v : Int} (hv : v = D i j) :
    FillRel (wr.setCell ⟨w.heap.size + 1 + i, j, none⟩ (.int .i64 v)) w g m W A n c x y D (i + 1) j := by
  obtain ⟨f, hf, hd⟩ := h.grid
  have hb : Below w.heap.size wr (wr.setCell ⟨w.heap.size + 1 + i, j, none⟩ (.int .i64 v)) := (Below.refl _ _).setCell (by show w.heap.size ≤ w.heap.size + 1 + i; omega) _
  refine ⟨⟨_, hf.put (by omega) v, fun i' j' hi' hj' hq => ?_⟩, by simpa [World.setCell] using h.size, h.bel.trans hb, h.ed.below hb hg hm⟩
  by_cases e : i' = i ∧ j' = j
  · rw [if_pos e, e.1, e.2]; exact hv
  · rw [if_neg e]
    exact hd i' j' hi' hj' (by omega)
theorem FillRel.nextRow {wr w : World} {g m : Nat} {W : Wt} {A : Option Addr} {n c : Nat} {x y : ByteArray} {D : Nat → Nat → Int} {i : Nat} (h : FillRel wr w g m W A n c x y D (i + 1) 0) : FillRel wr w g m W A n c x y D i (y.size + 1) := by
  obtain ⟨f, hf, hd⟩ := h.grid
  exact ⟨⟨f, hf, fun i' j' hi hj hq => hd i' j' hi hj (by omega)⟩, h.size, h.bel, h.ed⟩

/-- the loops' relations, behind names -/
def IRel (wr w : World) (g m : Nat) (W : Wt) (A : Option Addr) (n c : Nat) (x y : ByteArray) (D : Nat → Nat → Int) (t5 : Value) : Prop :=
  (∃ i : Nat, i ≤ x.size ∧ t5 = .int .i64 i ∧ FillRel wr w g m W A n c x y D (i + 1) (y.size + 1)) ∨ (t5 = .int .i64 (-1) ∧ FillRel wr w g m W A n c x y D 0 (y.size + 1))
def JRel (wr w : World) (g m : Nat) (W : Wt) (A : Option Addr) (n c : Nat) (x y : ByteArray) (D : Nat → Nat → Int) (i : Nat) (t6 : Value) : Prop :=
  (∃ j : Nat, j ≤ y.size ∧ t6 = .int .i64 j ∧ FillRel wr w g m W A n c x y D (i + 1) (j + 1)) ∨ (t6 = .int .i64 (-1) ∧ FillRel wr w g m W A n c x y D (i + 1) 0)
def KRel (wr w : World) (g m : Nat) (W : Wt) (A : Option Addr) (n c : Nat) (x y : ByteArray) (D : Nat → Nat → Int) (i j : Nat) (t7 t56 : Value) : Prop :=
  ∃ k : Nat, k ≤ 6 ∧ t56 = .int .i64 k ∧ ∃ b : Int, t7 = .int .i64 b ∧ b = bestOf W x y D i j k ∧ -1 ≤ b ∧ b ≤ 1001000 ∧ FillRel wr w g m W A n c x y D (i + 1) (j + 1)

theorem JRel.mk {wr w : World} {g m : Nat} {W : Wt} {A : Option Addr} {n c : Nat} {x y : ByteArray} {D : Nat → Nat → Int} {i j : Nat} (hj : j ≤ y.size) (h : FillRel wr w g m W A n c x y D (i + 1) j) : JRel wr w g m W A n c x y D i (.int .i64 ((j : Int) - 1)) := by
  cases j with
  | zero => exact .inr ⟨vint (by omega), h⟩
  | succ j => exact .inl ⟨j, by omega, vint (by omega), h⟩
theorem IRel.mk {wr w : World} {g m : Nat} {W : Wt} {A : Option Addr} {n c : Nat} {x y : ByteArray} {D : Nat → Nat → Int} {i : Nat} (hi : i ≤ x.size) (h : FillRel wr w g m W A n c x y D i (y.size + 1)) : IRel wr w g m W A n c x y D (.int .i64 ((i : Int) - 1)) := by
  cases i with
  | zero => exact .inr ⟨vint (by omega), h⟩
  | succ i => exact .inl ⟨i, by omega, vint (by omega), h⟩

set_option maxHeartbeats 1000000 in
set_option maxRecDepth 100000 in
theorem table_any (W : Wt) (hW : W.valid = true) (x y : ByteArray) (A : Option Addr) (n c g m : Nat) (w : World) (hE : Ed w g m W A n c x y) (hx : x.size ≤ 120) (hy : y.size ≤ 120) (D : Nat → Nat → Int) (hD : W.IsDist x.data.toList y.data.toList D) :
    Calls Try.prog 28 #[.pointer (some ⟨g, 0, none⟩)] w fun e w' => e = .returned (.slice (some ⟨w.heap.size, 0, none⟩) (x.size + 1) (x.size + 1)) ∧ FillRel w' w g m W A n c x y D 0 0 := by
  have hg := hE.blk.lt
  have hm := hE.map.lt
  obtain ⟨_, _, _, _, _, e6, e7⟩ := hE.facts
  have HS := hide (RowsRel.start hE)
  have HW := hide hW
  have HD := hide hD
  clear hE hW hD
  have hmk := fun w => run_make_any (P := Try.prog) Try.underlying46 info_ints rfl (N := (x.size : Int) + 1) (n := x.size + 1) (by omega) (by omega) (by omega) w
  have hmr := fun w => run_make_any (P := Try.prog) Try.underlying25 info_int rfl (N := (y.size : Int) + 1) (n := y.size + 1) (by omega) (by omega) (by omega) w
  go_enter Try.func28, Try.ntmps28
  go_wp2
  go_loopw [20] (fun i wr => ∃ k : Nat, k ≤ x.size + 1 ∧ i = .int .i64 k ∧ RowsRel wr w g m W A n c x y k) (fun i _ => x.size + 1 - (intOf i).toNat)
  case atStart => exact ⟨0, by omega, rfl, HS.out⟩
  case round =>
    obtain ⟨k, hk, rfl, hrel⟩ := hrel
    obtain ⟨_, _, _, _, _, e6, e7⟩ := hrel.ed.facts
    by_cases hlt : k < x.size + 1
    · have d0 : wr.cell? ⟨w.heap.size, k, none⟩ = some (.slice none 0 0) := by
        have := hrel.grid.top.cell k
        rwa [slots_get hlt, if_neg (by omega)] at this
      have d1 : wr.frozen? ⟨w.heap.size, k, none⟩ = false := hrel.grid.top.frozen _
      have hz : w.heap.size < wr.heap.size := hrel.grid.top.lt
      have Hn := hide (hrel.next hlt hg hm)
      clear hrel
      go_wp2
      go_roundw
      case rel => exact ⟨k + 1, by omega, by go_num, Hn.out⟩
      case measure => simp [intOf]; omega
    · obtain rfl : k = x.size + 1 := by omega
      have HR : Hid (FillRel wr w g m W A n c x y D (x.size + 1) (y.size + 1)) := ⟨⟨_, hrel.grid, fun i j hi hj hq => by omega⟩, by rw [hrel.size]; omega, hrel.bel, hrel.ed⟩
      clear hrel
      go_wp2
      clear hlt hk
      go_loopw [5] (fun t5 wr => IRel wr w g m W A n c x y D t5) (fun t5 _ => (intOf t5 + 1).toNat)
      case atStart => exact .inl ⟨x.size, Nat.le_refl _, rfl, HR.out⟩
      case round =>
        clear HR
        rcases hrel with ⟨i, hi, rfl, hrel⟩ | ⟨rfl, hrel⟩
        · obtain ⟨_, _, _, _, _, e6, e7⟩ := hrel.ed.facts
          have HR := hide hrel
          clear hrel
          go_wp2
          go_loopw [6] (fun t6 wr => JRel wr w g m W A n c x y D i t6) (fun t6 _ => (intOf t6 + 1).toNat)
          case atStart => exact .inl ⟨y.size, Nat.le_refl _, rfl, HR.out⟩
          case round =>
            clear HR e6 e7
            rcases hrel with ⟨j, hj, rfl, hrel⟩ | ⟨rfl, hrel⟩
            · have HR := hide hrel
              have hEd := hide hrel.ed
              clear hrel
              go_wp2_with (go_at_call 31; refine (steps_any W HW.out x y A n c g m i j _ hEd.out hx hy hi hj).mono ?_; rintro e w1 ⟨rfl, hb1⟩; have HF1 := hide (HR.out.below hb1 hg hm); clear hb1 HR hEd)
              go_loopw [7, 56] (fun t7 t56 wr => KRel wr w g m W A n c x y D i j t7 t56) (fun _ t56 _ => 6 - (intOf t56).toNat)
              case atStart => exact ⟨0, by omega, rfl, -1, rfl, rfl, by omega, by omega, HF1.out⟩
              case round =>
                clear HF1
                obtain ⟨k, hk, rfl, b, rfl, hb, hb1, hb2, hrel⟩ := hrel
                by_cases hlt : k < 6
                · obtain ⟨sc, sa, sb, hs, hfit⟩ : ∃ sc sa sb, (W.steps x.data.toList y.data.toList i j)[k]? = some (sc, sa, sb) ∧ Wt.fits x.data.toList y.data.toList i j (sc, sa, sb) := by
                    have hl : k < (W.steps x.data.toList y.data.toList i j).length := hlt
                    exact ⟨_, _, _, List.getElem?_eq_getElem hl, Wt.steps_fit HW.out (by simpa using hi) (by simpa using hj) _ (List.getElem_mem hl)⟩
                  have hix := fun w => index_step _ (steps_length W x.data.toList y.data.toList i j) hs w
                  have HB := hide (hb ▸ bestOf_succ (D := D) hs)
                  have Hb := hide hb
                  clear hb
                  by_cases hneg : sc < 0
                  · have HR := hide hrel
                    clear hrel hfit hs
                    go_wp2
                    go_roundw
                    case rel => exact ⟨k + 1, by omega, by go_num, b, rfl, by rw [HB.out]; simp [Wt.bestStep, hneg], hb1, hb2, HR.out.below ((Below.refl _ _).alloc (Nat.le_refl _) _) hg hm⟩
                    case measure => simp [intOf]; omega
                  · have hf : sc ≤ 1000 ∧ 0 ≤ sa ∧ 0 ≤ sb ∧ 0 < sa + sb ∧ i + sa ≤ x.size ∧ j + sb ≤ y.size := by
                      have := hfit.resolve_left hneg
                      simpa using this
                    clear hfit hs
                    obtain ⟨f1, f2, f3, f4, f5, f6⟩ := hf
                    obtain ⟨na, rfl⟩ := Int.eq_ofNat_of_zero_le f2
                    obtain ⟨nb, rfl⟩ := Int.eq_ofNat_of_zero_le f3
                    have hi2 : i + na ≤ x.size := by omega
                    have hj2 : j + nb ≤ y.size := by omega
                    obtain ⟨p1, p2⟩ := hrel.cells hi2 hj2 (by omega)
                    have q1 := HD.out.lo (i + na) (j + nb)
                    have q2 := HD.out.hi (i + na) (j + nb) (by simpa using hi2) (by simpa using hj2)
                    have hz : w.heap.size + 1 + (x.size + 1) ≤ wr.heap.size := hrel.size
                    have hz1 : w.heap.size < wr.heap.size := by omega
                    have hz2 : w.heap.size + 1 + (i + na) < wr.heap.size := by omega
                    have HR := hide hrel
                    clear hrel
                    have HS1 : Hid (bestOf W x y D i j (k + 1) = Wt.better b (sc + D (i + na) (j + nb))) := by
                      show _ = _
                      rw [HB.out]; simp [Wt.bestStep, hneg]
                    clear HB
                    generalize D (i + na) (j + nb) = dv at *
                    by_cases t1 : b < 0
                    · have HS2 : Hid (bestOf W x y D i j (k + 1) = sc + dv) := by
                        show _ = _
                        rw [HS1.out]; simp [Wt.better, t1]
                      clear HS1
                      go_wp2
                      have s1 : IntKind.i64.wrap ((i : Int) + (na : Int)) = (i : Int) + (na : Int) := IntWalk.i64_in _ (by omega)
                      have s2 : 0 ≤ (i : Int) + (na : Int) := by omega
                      have s3 : (i : Int) + (na : Int) < (x.size : Int) + 1 := by omega
                      have s4 : ((i : Int) + (na : Int)).toNat = i + na := by omega
                      have s5 : IntKind.i64.wrap ((j : Int) + (nb : Int)) = (j : Int) + (nb : Int) := IntWalk.i64_in _ (by omega)
                      have s6 : 0 ≤ (j : Int) + (nb : Int) := by omega
                      have s7 : (j : Int) + (nb : Int) < (y.size : Int) + 1 := by omega
                      have s8 : ((j : Int) + (nb : Int)).toNat = j + nb := by omega
                      have s9 : IntKind.i64.wrap (sc + dv) = sc + dv := IntWalk.i64_in _ (by omega)
                      go_quiet (fail)
                      clear s1 s2 s3 s4 s5 s6 s7 s8 s9
                      go_wp2
                      go_roundw
                      case rel => exact ⟨k + 1, by omega, by go_num, _, rfl, HS2.out.symm, by omega, by omega, HR.out.below (below_drewN ((Below.refl _ _).alloc (Nat.le_refl _) _) _) hg hm⟩
                      case measure => simp [intOf]; omega
                    · by_cases t2 : sc + dv < b
                      · have HS2 : Hid (bestOf W x y D i j (k + 1) = sc + dv) := by
                          show _ = _
                          rw [HS1.out]; simp [Wt.better, t2]
                        clear HS1
                        go_wp2
                        have s1 : IntKind.i64.wrap ((i : Int) + (na : Int)) = (i : Int) + (na : Int) := IntWalk.i64_in _ (by omega)
                        have s2 : 0 ≤ (i : Int) + (na : Int) := by omega
                        have s3 : (i : Int) + (na : Int) < (x.size : Int) + 1 := by omega
                        have s4 : ((i : Int) + (na : Int)).toNat = i + na := by omega
                        have s5 : IntKind.i64.wrap ((j : Int) + (nb : Int)) = (j : Int) + (nb : Int) := IntWalk.i64_in _ (by omega)
                        have s6 : 0 ≤ (j : Int) + (nb : Int) := by omega
                        have s7 : (j : Int) + (nb : Int) < (y.size : Int) + 1 := by omega
                        have s8 : ((j : Int) + (nb : Int)).toNat = j + nb := by omega
                        have s9 : IntKind.i64.wrap (sc + dv) = sc + dv := IntWalk.i64_in _ (by omega)
                        go_quiet (fail)
                        clear s1 s2 s3 s4 s5 s6 s7 s8 s9
                        go_wp2
                        go_roundw
                        case rel => exact ⟨k + 1, by omega, by go_num, _, rfl, HS2.out.symm, by omega, by omega, HR.out.below (below_drewN ((Below.refl _ _).alloc (Nat.le_refl _) _) _) hg hm⟩
                        case measure => simp [intOf]; omega
                      · have HS2 : Hid (bestOf W x y D i j (k + 1) = b) := by
                          show _ = _
                          rw [HS1.out]; simp [Wt.better, t1, t2]
                        clear HS1
                        go_wp2
                        have s1 : IntKind.i64.wrap ((i : Int) + (na : Int)) = (i : Int) + (na : Int) := IntWalk.i64_in _ (by omega)
                        have s2 : 0 ≤ (i : Int) + (na : Int) := by omega
                        have s3 : (i : Int) + (na : Int) < (x.size : Int) + 1 := by omega
                        have s4 : ((i : Int) + (na : Int)).toNat = i + na := by omega
                        have s5 : IntKind.i64.wrap ((j : Int) + (nb : Int)) = (j : Int) + (nb : Int) := IntWalk.i64_in _ (by omega)
                        have s6 : 0 ≤ (j : Int) + (nb : Int) := by omega
                        have s7 : (j : Int) + (nb : Int) < (y.size : Int) + 1 := by omega
                        have s8 : ((j : Int) + (nb : Int)).toNat = j + nb := by omega
                        have s9 : IntKind.i64.wrap (sc + dv) = sc + dv := IntWalk.i64_in _ (by omega)
                        go_quiet (fail)
                        clear s1 s2 s3 s4 s5 s6 s7 s8 s9
                        go_wp2
                        go_roundw
                        case rel => exact ⟨k + 1, by omega, by go_num, _, rfl, HS2.out.symm, by omega, by omega, HR.out.below (below_drewN ((Below.refl _ _).alloc (Nat.le_refl _) _) _) hg hm⟩
                        case measure => simp [intOf]; omega
                · obtain rfl : k = 6 := by omega
                  have hmax := bestOf_six HD.out hi hj
                  rw [← hb] at hmax
                  have HM := hide hmax
                  clear hmax hb
                  obtain ⟨p1, ⟨ov, p2⟩, p3⟩ := hrel.place hi hj
                  have HP : Hid (∀ v, v = D i j → FillRel (wr.setCell ⟨w.heap.size + 1 + i, j, none⟩ (.int .i64 v)) w g m W A n c x y D (i + 1) j) := fun v hv => hrel.put hi hg hm hv
                  clear hrel
                  by_cases hb0 : 0 ≤ b
                  · have HQ := hide (HP.out b (by rw [← HM.out]; omega))
                    go_wp2
                    go_roundw
                    case rel =>
                      have R : JRel _ w g m W A n c x y D i (.int .i64 ((j : Int) - 1)) := JRel.mk hj HQ.out
                      first | exact R | ((repeat apply Exists.intro); exact ⟨R, rfl⟩)
                    case measure => simp [intOf]; try omega
                  · have HQ := hide (HP.out 0 (by rw [← HM.out]; omega))
                    go_wp2
                    go_roundw
                    case rel =>
                      have R : JRel _ w g m W A n c x y D i (.int .i64 ((j : Int) - 1)) := JRel.mk hj HQ.out
                      first | exact R | ((repeat apply Exists.intro); exact ⟨R, rfl⟩)
                    case measure => simp [intOf]; try omega
            · have HZ := hide hrel.nextRow
              clear hrel
              go_wp2
              go_roundw
              case rel =>
                have R : IRel _ w g m W A n c x y D (.int .i64 ((i : Int) - 1)) := IRel.mk hi HZ.out
                first | exact R | ((repeat apply Exists.intro); exact ⟨R, rfl⟩)
              case measure => simp [intOf]; try omega
        · have HZ : Hid (FillRel wr w g m W A n c x y D 0 0) := ⟨(by obtain ⟨f, hf, hd⟩ := hrel.grid; exact ⟨f, hf, fun i j hi hj _ => hd i j hi hj (.inl (by omega))⟩), hrel.size, hrel.bel, hrel.ed⟩
          clear hrel
          go_wp2
          go_ret
          exact ⟨rfl, HZ.out⟩
end Go.Proofs.Ytnpdhbagfkilkaa
