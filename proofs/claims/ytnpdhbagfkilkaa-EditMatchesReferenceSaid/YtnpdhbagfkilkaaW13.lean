/- Walks: edit.Ahead. -/
import Derived.Test.YtnpdhbagfkilkaaW12
set_option linter.unusedVariables false
set_option linter.unusedSimpArgs false
namespace Go.Proofs.Ytnpdhbagfkilkaa
open Go.RowKit

/-! rows that are laid one by one -/
def slotsB (B : Nat → Nat) (n m k : Nat) : Array Value := ((List.range n).map fun i => if i < k then Value.slice (some ⟨B i, 0, none⟩) m m else .slice none 0 0).toArray
theorem slotsB_get {B : Nat → Nat} {n m k i : Nat} (h : i < n) : (slotsB B n m k)[i]? = some (if i < k then Value.slice (some ⟨B i, 0, none⟩) m m else .slice none 0 0) := by
  simp [slotsB, h]
theorem slotsB_set {B : Nat → Nat} {n m k b : Nat} : (slotsB B n m k).setIfInBounds k (.slice (some ⟨b, 0, none⟩) m m) = slotsB (fun j => if j = k then b else B j) n m (k + 1) := by
  apply Array.ext_getElem?
  intro i
  simp only [slotsB, Array.getElem?_setIfInBounds, List.getElem?_toArray, List.getElem?_map, List.size_toArray, List.length_map, List.length_range]
  by_cases h : k = i
  · subst h
    by_cases hk : k < n <;> simp [hk, List.getElem?_range]
  · by_cases hk : i < n
    · by_cases h1 : i < k
      · simp [h, hk, h1, List.getElem?_range, show i < k + 1 by omega, show i ≠ k by omega]
      · simp [h, hk, h1, List.getElem?_range, show ¬ i < k + 1 by omega]
    · simp [h, hk, List.getElem?_range]
theorem slotsB_made (B : Nat → Nat) (n m : Nat) : madeCells #[Value.slice none 0 0] n = slotsB B n m 0 := by
  apply Array.ext_getElem?
  intro i
  simp only [madeCells, slotsB, Array.getElem?_map, List.getElem?_toArray, List.getElem?_map]
  by_cases h : i < n
  · simp [h, Nat.mod_one]
  · simp [h]
structure Rws (w : World) (R T n m k : Nat) (B : Nat → Nat) (f : Nat → Nat → Int) : Prop where
  var : Blk w R 46 #[.slice (some ⟨T, 0, none⟩) n n]
  top : Blk w T 25 (slotsB B n m k)
  row : ∀ j, j < k → Blk w (B j) 3 (rowArr (f j) m)
  sep : ∀ j, j < k → R < B j ∧ ∀ j', j' < k → B j' = B j → j' = j
  tr : T < R
theorem Rws.slot {w : World} {R T n m k : Nat} {B : Nat → Nat} {f : Nat → Nat → Int} (h : Rws w R T n m k B f) {j : Nat} (hj : j < k) (hn : j < n) : w.cell? ⟨T, j, none⟩ = some (.slice (some ⟨B j, 0, none⟩) m m) := by
  rw [h.top.cell, slotsB_get hn, if_pos hj]
theorem Rws.cell {w : World} {R T n m k : Nat} {B : Nat → Nat} {f : Nat → Nat → Int} (h : Rws w R T n m k B f) {j i : Nat} (hj : j < k) (hi : i < m) : w.cell? ⟨B j, i, none⟩ = some (.int .i64 (f j i)) := by
  rw [(h.row j hj).cell, rowArr_get _ hi]
theorem Rws.below {w w' : World} {R T n m k : Nat} {B : Nat → Nat} {f : Nat → Nat → Int} (h : Rws w R T n m k B f) (hb : Below w.heap.size w w') : Rws w' R T n m k B f :=
  ⟨h.var.below hb h.var.lt, h.top.below hb h.top.lt, fun j hj => (h.row j hj).below hb (h.row j hj).lt, h.sep, h.tr⟩
theorem Rws.drewN {w : World} {R T n m k : Nat} {B : Nat → Nat} {f : Nat → Nat → Int} (h : Rws w R T n m k B f) (q : Nat) : Rws (w.drewN q) R T n m k B f :=
  ⟨h.var, h.top, h.row, h.sep, h.tr⟩
theorem Rws.newRow {w : World} {R T n m k : Nat} {B : Nat → Nat} {f : Nat → Nat → Int} (h : Rws w R T n m k B f) :
    Rws ((w.setCell ⟨T, k, none⟩ (.slice (some ⟨w.heap.size, 0, none⟩) m m)).alloc (.cells (madeCells #[.int .i64 0] m) 3)) R T n m (k + 1) (fun j => if j = k then w.heap.size else B j) (fun j i => if j = k then 0 else f j i) := by
  have hR := h.var.lt
  have hT := h.tr
  have hsz : (w.setCell ⟨T, k, none⟩ (.slice (some ⟨w.heap.size, 0, none⟩) m m)).heap.size = w.heap.size := by simp [World.setCell]
  refine ⟨(h.var.far (by show R ≠ T; omega) _).alloc _, ?_, fun j hj => ?_, fun j hj => ?_, hT⟩
  · have := (h.top.set_ k (.slice (some ⟨w.heap.size, 0, none⟩) m m)).alloc (.cells (madeCells #[.int .i64 0] m) 3)
    rw [slotsB_set] at this
    exact this
  · by_cases e : j = k
    · subst e
      simp only [if_true]
      have := Blk.new (w.setCell ⟨T, j, none⟩ (.slice (some ⟨w.heap.size, 0, none⟩) m m)) 3 (madeCells #[.int .i64 0] m)
      rw [hsz, rowArr_made] at this
      rw [rowArr_made]
      exact this
    · simp only [if_neg e]
      have hs := (h.sep j (by omega)).1
      exact ((h.row j (by omega)).far (by show B j ≠ T; omega) _).alloc _
  · by_cases e : j = k
    · subst e
      simp only [if_true]
      refine ⟨hR, fun j' hj' e' => ?_⟩
      by_cases e2 : j' = j
      · exact e2
      · simp only [if_neg e2] at e'
        have := (h.row j' (by omega)).lt
        omega
    · simp only [if_neg e]
      refine ⟨(h.sep j (by omega)).1, fun j' hj' e' => ?_⟩
      by_cases e2 : j' = k
      · simp only [if_pos e2] at e'
        have := (h.row j (by omega)).lt
        omega
      · simp only [if_neg e2] at e'
        exact (h.sep j (by omega)).2 j' (by omega) e'
theorem Rws.put {w : World} {R T n m k : Nat} {B : Nat → Nat} {f : Nat → Nat → Int} (h : Rws w R T n m k B f) {j : Nat} (hj : j < k) (i : Nat) (v : Int) :
    Rws (w.setCell ⟨B j, i, none⟩ (.int .i64 v)) R T n m k B (fun p q => if p = j ∧ q = i then v else f p q) := by
  have hs := (h.sep j hj).1
  have hT := h.tr
  refine ⟨h.var.far (by show R ≠ B j; omega) _, h.top.far (by show T ≠ B j; omega) _, fun p hp => ?_, h.sep, hT⟩
  by_cases e : p = j
  · subst e
    have := (h.row p hp).set_ i (.int .i64 v)
    rw [rowArr_set] at this
    have e2 : (fun q => if p = p ∧ q = i then v else f p q) = fun q => if q = i then v else f p q := by funext q; simp
    rw [e2]
    exact this
  · have e2 : (fun q => if p = j ∧ q = i then v else f p q) = f p := by funext q; simp [e]
    rw [e2]
    exact (h.row p hp).far (by show B p ≠ B j; exact fun e' => e ((h.sep j hj).2 p hp e')) _

/-- while row j is filled up to i; all rows before are done -/
structure AhRel (wr wo : World) (R T : Nat) (W : Wt) (x p : ByteArray) (j i : Nat) (B : Nat → Nat) (f : Nat → Nat → Int) : Prop where
  rws : Rws wr R T (p.size + 1) (x.size + 1) (j + 1) B f
  done : ∀ j' i', i' ≤ x.size → (j' < j ∨ (j' = j ∧ i' < i)) → f j' i' = Wt.F W x.data.toList p.data.toList j' i'
  bel : Below wo.heap.size wo wr
  base : wo.heap.size ≤ T
def AhI (wr wo : World) (R T : Nat) (W : Wt) (x p : ByteArray) (j i : Nat) : Prop := ∃ B f, AhRel wr wo R T W x p j i B f
structure AhTop (wr wo : World) (R T : Nat) (W : Wt) (x p : ByteArray) (k : Nat) (B : Nat → Nat) (f : Nat → Nat → Int) : Prop where
  rws : Rws wr R T (p.size + 1) (x.size + 1) k B f
  done : ∀ j' i', i' ≤ x.size → j' < k → f j' i' = Wt.F W x.data.toList p.data.toList j' i'
  bel : Below wo.heap.size wo wr
  base : wo.heap.size ≤ T
def AhJ (wr wo : World) (R T : Nat) (W : Wt) (x p : ByteArray) (k : Nat) : Prop := ∃ B f, AhTop wr wo R T W x p k B f

theorem AhJ.start (wo : World) (W : Wt) (x p : ByteArray) :
    AhJ ((wo.alloc (.cells (madeCells #[.slice none 0 0] (p.size + 1)) 25)).alloc (.cells #[.slice (some ⟨wo.heap.size, 0, none⟩) (p.size + 1) (p.size + 1)] 46)) wo (wo.heap.size + 1) wo.heap.size W x p 0 := by
  refine ⟨fun _ => 0, fun _ _ => 0, ⟨heap_alloc2_new _ _ _, ?_, fun j hj => by omega, fun j hj => by omega, by omega⟩, fun _ _ _ h => by omega, ((Below.refl _ _).alloc (Nat.le_refl _) _).alloc (by simp) _, Nat.le_refl _⟩
  have := slotsB_made (fun _ => 0) (p.size + 1) (x.size + 1)
  rw [← this]
  exact heap_alloc2_old _ _ _
theorem AhJ.row {wr wo : World} {R T : Nat} {W : Wt} {x p : ByteArray} {k : Nat} (h : AhJ wr wo R T W x p k) (q : Nat) :
    AhI (((wr.setCell ⟨T, k, none⟩ (.slice (some ⟨wr.heap.size, 0, none⟩) (x.size + 1) (x.size + 1))).alloc (.cells (madeCells #[.int .i64 0] (x.size + 1)) 3)).drewN q) wo R T W x p k 0 := by
  obtain ⟨B, f, h⟩ := h
  have hsz : (wr.setCell ⟨T, k, none⟩ (.slice (some ⟨wr.heap.size, 0, none⟩) (x.size + 1) (x.size + 1))).heap.size = wr.heap.size := by simp [World.setCell]
  have hb1 : Below wo.heap.size wo (wr.setCell ⟨T, k, none⟩ (.slice (some ⟨wr.heap.size, 0, none⟩) (x.size + 1) (x.size + 1))) := h.bel.setCell (p := ⟨T, k, none⟩) h.base _
  refine ⟨_, _, ⟨h.rws.newRow.drewN q, fun j' i' hi' hj' => ?_, below_drewN (hb1.alloc (by rw [hsz]; exact h.bel.size) _) q, h.base⟩⟩
  have hlt : j' < k := by omega
  simp only [if_neg (show j' ≠ k by omega)]
  exact h.done j' i' hi' hlt
theorem AhI.next {wr wo : World} {R T : Nat} {W : Wt} {x p : ByteArray} {j i : Nat} {B : Nat → Nat} {f : Nat → Nat → Int} (h : AhRel wr wo R T W x p j i B f) {v : Int} (hv : v = Wt.F W x.data.toList p.data.toList j i) :
    AhI (wr.setCell ⟨B j, i, none⟩ (.int .i64 v)) wo R T W x p j (i + 1) := by
  have hs := (h.rws.sep j (by omega)).1
  have ht := h.rws.tr
  refine ⟨B, _, ⟨h.rws.put (by omega) i v, fun j' i' hi' hq => ?_, h.bel.setCell (p := ⟨B j, i, none⟩) (by have := h.base; show wo.heap.size ≤ B j; omega) _, h.base⟩⟩
  by_cases e : j' = j ∧ i' = i
  · simp only [if_pos e]; rw [e.1, e.2]; exact hv
  · simp only [if_neg e]; exact h.done j' i' hi' (by omega)
theorem AhI.done_row {wr wo : World} {R T : Nat} {W : Wt} {x p : ByteArray} {j : Nat} (h : AhI wr wo R T W x p j (x.size + 1)) : AhJ wr wo R T W x p (j + 1) := by
  obtain ⟨B, f, h⟩ := h
  exact ⟨B, f, ⟨h.rws, fun j' i' hi' hj' => h.done j' i' hi' (by omega), h.bel, h.base⟩⟩
theorem AhRel.below {wr w' wo : World} {R T : Nat} {W : Wt} {x p : ByteArray} {j i : Nat} {B : Nat → Nat} {f : Nat → Nat → Int} (h : AhRel wr wo R T W x p j i B f) (hb : Below wr.heap.size wr w') : AhRel w' wo R T W x p j i B f :=
  ⟨h.rws.below hb, h.done, h.bel.trans (hb.mono h.bel.size), h.base⟩
theorem AhRel.drewN {wr wo : World} {R T : Nat} {W : Wt} {x p : ByteArray} {j i : Nat} {B : Nat → Nat} {f : Nat → Nat → Int} (h : AhRel wr wo R T W x p j i B f) (q : Nat) : AhRel (wr.drewN q) wo R T W x p j i B f :=
  ⟨h.rws.drewN q, h.done, below_drewN h.bel q, h.base⟩
theorem AhRel.facts {wr wo : World} {R T : Nat} {W : Wt} {x p : ByteArray} {j i : Nat} {B : Nat → Nat} {f : Nat → Nat → Int} (h : AhRel wr wo R T W x p j i B f) (hj : j ≤ p.size) (hi : i ≤ x.size) :
    wr.cell? ⟨R, 0, none⟩ = some (.slice (some ⟨T, 0, none⟩) (p.size + 1) (p.size + 1)) ∧ wr.cell? ⟨T, j, none⟩ = some (.slice (some ⟨B j, 0, none⟩) (x.size + 1) (x.size + 1)) ∧ (∃ v, wr.cell? ⟨B j, i, none⟩ = some (.int .i64 v)) ∧ wr.frozen? ⟨B j, i, none⟩ = false ∧
    R < wr.heap.size ∧ T < wr.heap.size ∧ B j < wr.heap.size :=
  ⟨h.rws.var.cell 0, h.rws.slot (by omega) (by omega), ⟨_, h.rws.cell (by omega) (by omega)⟩, (h.rws.row j (by omega)).frozen _, h.rws.var.lt, h.rws.top.lt, (h.rws.row j (by omega)).lt⟩
/-- the closure's answer at a place that is done -/
theorem AhRel.at_ {wr wo : World} {R T : Nat} {W : Wt} (hW : W.valid = true) {x p : ByteArray} (hx : x.size ≤ 120) (hp : p.size ≤ 120) {j i : Nat} {B : Nat → Nat} {f : Nat → Nat → Int} (h : AhRel wr wo R T W x p j i B f) (hj : j ≤ p.size)
    {iz jz c : Int} (i' j' : Nat) (ei : iz = i') (ej : jz = j') (hi' : i' ≤ x.size) (hq : j' < j ∨ (j' = j ∧ i' < i)) (hc : -1000 ≤ c ∧ c ≤ 1000) :
    Calls Try.prog 33 #[.int .i64 iz, .int .i64 jz, .int .i64 c, .pointer (some ⟨R, 0, none⟩)] wr fun e w' => e = .returned (.int .i64 (Wt.atv (Wt.F W x.data.toList p.data.toList j' i') c)) ∧ wr = w' := by
  refine at_any iz jz c _ i' j' R T (p.size + 1) (x.size + 1) (B j') _ _ wr ei ej (by omega) (by omega) (h.rws.var.cell 0) (h.rws.slot (by omega) (by omega)) ?_ ⟨Wt.F_lo hW (by simpa using hx) (by simpa using hp) _ _, Wt.F_hi hW (by simpa using hx) (by simpa using hp) _ _⟩ hc (by omega)
  rw [h.rws.cell (by omega) (by omega), h.done j' i' hi' hq]
theorem AhTop.at_ {wr wo : World} {R T : Nat} {W : Wt} (hW : W.valid = true) {x p : ByteArray} (hx : x.size ≤ 120) (hp : p.size ≤ 120) {B : Nat → Nat} {f : Nat → Nat → Int} (h : AhTop wr wo R T W x p (p.size + 1) B f)
    {iz jz c : Int} (i' j' : Nat) (ei : iz = i') (ej : jz = j') (hi' : i' ≤ x.size) (hj' : j' ≤ p.size) (hc : -1000 ≤ c ∧ c ≤ 1000) :
    Calls Try.prog 33 #[.int .i64 iz, .int .i64 jz, .int .i64 c, .pointer (some ⟨R, 0, none⟩)] wr fun e w' => e = .returned (.int .i64 (Wt.atv (Wt.F W x.data.toList p.data.toList j' i') c)) ∧ wr = w' := by
  refine at_any iz jz c _ i' j' R T (p.size + 1) (x.size + 1) (B j') _ _ wr ei ej (by omega) (by omega) (h.rws.var.cell 0) (h.rws.slot (by omega) (by omega)) ?_ ⟨Wt.F_lo hW (by simpa using hx) (by simpa using hp) _ _, Wt.F_hi hW (by simpa using hx) (by simpa using hp) _ _⟩ hc (by omega)
  rw [h.rws.cell (by omega) (by omega), h.done j' i' hi' (by omega)]
end Go.Proofs.Ytnpdhbagfkilkaa
