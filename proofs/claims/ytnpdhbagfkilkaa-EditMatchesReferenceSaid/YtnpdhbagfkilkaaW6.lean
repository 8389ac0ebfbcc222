/- Walks: the editor's steps, joined; the table. -/
import Derived.Test.YtnpdhbagfkilkaaW5d
import Derived.Test.YtnpdhbagfkilkaaW5e
import Derived.Test.YtnpdhbagfkilkaaW5f
import Derived.Test.YtnpdhbagfkilkaaPlain2
set_option linter.unusedVariables false
set_option linter.unusedSimpArgs false
namespace Go.Proofs.Ytnpdhbagfkilkaa
open Go.RowKit

theorem near_look {W : Wt} (hW : W.valid = true) (a b : Int) :
    (lacks (nearMap W.near) (pairKey .u8 a b) ∧ Wt.look W.near a b = none) ∨ ∃ c, has (nearMap W.near) (pairKey .u8 a b) (.int .i64 c) ∧ Wt.look W.near a b = some c := by
  unfold Wt.look
  cases hf : W.near.find? (fun n => (n.1 == a && n.2.1 == b) || (n.1 == b && n.2.1 == a)) with
  | none =>
    refine .inl ⟨fun y hy e => ?_, rfl⟩
    rw [List.find?_eq_none] at hf
    obtain ⟨n, hn, hy⟩ := List.mem_flatMap.1 hy
    have h := hf n hn
    simp only [List.mem_cons, List.not_mem_nil, or_false] at hy
    rcases hy with rfl | rfl
    · have := pairKey_inj e
      simp [this] at h
    · have := pairKey_inj e
      simp [this] at h
  | some n =>
    refine .inr ⟨n.2.2, ?_, rfl⟩
    have hn := List.mem_of_find?_eq_some hf
    have h := List.find?_some hf
    simp only [Bool.or_eq_true, Bool.and_eq_true, beq_iff_eq] at h
    refine List.mem_flatMap.2 ⟨n, hn, ?_⟩
    rcases h with ⟨rfl, rfl⟩ | ⟨rfl, rfl⟩ <;> simp

theorem steps_any (W : Wt) (hW : W.valid = true) (x y : ByteArray) (A : Option Addr) (n c g m i j : Nat) (w : World) (hE : Ed w g m W A n c x y) (hx : x.size ≤ 120) (hy : y.size ≤ 120) (hi : i ≤ x.size) (hj : j ≤ y.size) :
    Calls Try.prog 31 #[.pointer (some ⟨g, 0, none⟩), .int .i64 i, .int .i64 j] w fun e w' => e = .returned (.agg (stepArr (W.steps x.data.toList y.data.toList i j))) ∧ Below w.heap.size w w' := by
  by_cases hij : i < x.size
  · by_cases hjj : j < y.size
    · by_cases hab : x[i].toNat = y[j].toNat
      · rcases near_look hW x[i].toNat y[j].toNat with ⟨hl0, _⟩ | ⟨c0, hh, _⟩
        · by_cases hl : i + 1 < x.size
          · by_cases hr : j + 1 < y.size
            · exact stepsDno3 W hW x y A n c g m i j w hE hx hy hi hj hij hjj hab hl0 hl hr
            · exact stepsDno2 W hW x y A n c g m i j w hE hx hy hi hj hij hjj hab hl0 hl hr
          · exact stepsDno1 W hW x y A n c g m i j w hE hx hy hi hj hij hjj hab hl0 hl
        · by_cases hl : i + 1 < x.size
          · by_cases hr : j + 1 < y.size
            · exact stepsDyes3 W hW x y A n c g m i j w hE hx hy hi hj hij hjj hab c0 hh hl hr
            · exact stepsDyes2 W hW x y A n c g m i j w hE hx hy hi hj hij hjj hab c0 hh hl hr
          · exact stepsDyes1 W hW x y A n c g m i j w hE hx hy hi hj hij hjj hab c0 hh hl
      · rcases near_look hW x[i].toNat y[j].toNat with ⟨hl0, hk⟩ | ⟨c0, hh, hk⟩
        · by_cases hl : i + 1 < x.size
          · by_cases hr : j + 1 < y.size
            · by_cases hc : x[i].toNat = y[j + 1].toNat
              · by_cases hd : x[i + 1].toNat = y[j].toNat
                · exact stepsEno5 W hW x y A n c g m i j w hE hx hy hi hj hij hjj hab hl0 hk hl hr hc hd
                · exact stepsEno4 W hW x y A n c g m i j w hE hx hy hi hj hij hjj hab hl0 hk hl hr hc hd
              · exact stepsEno3 W hW x y A n c g m i j w hE hx hy hi hj hij hjj hab hl0 hk hl hr hc
            · exact stepsEno2 W hW x y A n c g m i j w hE hx hy hi hj hij hjj hab hl0 hk hl hr
          · exact stepsEno1 W hW x y A n c g m i j w hE hx hy hi hj hij hjj hab hl0 hk hl
        · by_cases hl : i + 1 < x.size
          · by_cases hr : j + 1 < y.size
            · by_cases hc : x[i].toNat = y[j + 1].toNat
              · by_cases hd : x[i + 1].toNat = y[j].toNat
                · exact stepsEyes5 W hW x y A n c g m i j w hE hx hy hi hj hij hjj hab c0 hh hk hl hr hc hd
                · exact stepsEyes4 W hW x y A n c g m i j w hE hx hy hi hj hij hjj hab c0 hh hk hl hr hc hd
              · exact stepsEyes3 W hW x y A n c g m i j w hE hx hy hi hj hij hjj hab c0 hh hk hl hr hc
            · exact stepsEyes2 W hW x y A n c g m i j w hE hx hy hi hj hij hjj hab c0 hh hk hl hr
          · exact stepsEyes1 W hW x y A n c g m i j w hE hx hy hi hj hij hjj hab c0 hh hk hl
    · exact stepsC W hW x y A n c g m i j w hE hx hy hi hj hij hjj
  · by_cases hjj : j < y.size
    · exact stepsB W hW x y A n c g m i j w hE hx hy hi hj hij hjj
    · exact stepsA W hW x y A n c g m i j w hE hx hy hi hj hij hjj

/-! the table -/
def rowArr (f : Nat → Int) (k : Nat) : Array Value := ((List.range k).map fun j => Value.int .i64 (f j)).toArray
theorem rowArr_get (f : Nat → Int) {k j : Nat} (h : j < k) : (rowArr f k)[j]? = some (.int .i64 (f j)) := by
  simp [rowArr, h]
theorem rowArr_set (f : Nat → Int) {k j : Nat} (v : Int) : (rowArr f k).setIfInBounds j (.int .i64 v) = rowArr (fun q => if q = j then v else f q) k := by
  apply Array.ext_getElem?
  intro i
  simp only [rowArr, Array.getElem?_setIfInBounds, List.getElem?_toArray, List.getElem?_map, List.getElem?_range, List.size_toArray, List.length_map, List.length_range]
  by_cases h : j = i
  · subst h
    by_cases hk : j < k <;> simp [hk, List.getElem?_range]
  · by_cases hk : i < k
    · simp [h, hk, List.getElem?_range, show i ≠ j from fun e => h e.symm]
    · simp [h, hk, List.getElem?_range]
theorem rowArr_made (k : Nat) : madeCells #[Value.int .i64 0] k = rowArr (fun _ => 0) k := by
  apply Array.ext_getElem?
  intro i
  simp only [madeCells, rowArr, Array.getElem?_map, List.getElem?_toArray, List.getElem?_map]
  by_cases h : i < k
  · simp [h, Nat.mod_one]
  · simp [h]
/-- the rows' slices: the first k rows are laid, row i in block T + 1 + i -/
def slots (T n mm k : Nat) : Array Value := ((List.range n).map fun i => if i < k then Value.slice (some ⟨T + 1 + i, 0, none⟩) mm mm else .slice none 0 0).toArray
theorem slots_get {T n mm k i : Nat} (h : i < n) : (slots T n mm k)[i]? = some (if i < k then Value.slice (some ⟨T + 1 + i, 0, none⟩) mm mm else .slice none 0 0) := by
  simp [slots, h]
theorem slots_set {T n mm k : Nat} : (slots T n mm k).setIfInBounds k (.slice (some ⟨T + 1 + k, 0, none⟩) mm mm) = slots T n mm (k + 1) := by
  apply Array.ext_getElem?
  intro i
  simp only [slots, Array.getElem?_setIfInBounds, List.getElem?_toArray, List.getElem?_map, List.size_toArray, List.length_map, List.length_range]
  by_cases h : k = i
  · subst h
    by_cases hk : k < n <;> simp [hk, List.getElem?_range]
  · by_cases hk : i < n
    · by_cases h1 : i < k
      · simp [h, hk, h1, List.getElem?_range, show i < k + 1 by omega]
      · simp [h, hk, h1, List.getElem?_range, show ¬ i < k + 1 by omega]
    · simp [h, hk, List.getElem?_range]
theorem slots_made (T n mm : Nat) : madeCells #[Value.slice none 0 0] n = slots T n mm 0 := by
  apply Array.ext_getElem?
  intro i
  simp only [madeCells, slots, Array.getElem?_map, List.getElem?_toArray, List.getElem?_map]
  by_cases h : i < n
  · simp [h, Nat.mod_one]
  · simp [h]

/-- a table of n rows of mm integers: the rows' slices in block T, row i in block T + 1 + i -/
structure Grid (w : World) (T n mm k : Nat) (f : Nat → Nat → Int) : Prop where
  top : Blk w T 25 (slots T n mm k)
  row : ∀ i, i < k → Blk w (T + 1 + i) 3 (rowArr (f i) mm)
theorem Grid.slot {w : World} {T n mm k : Nat} {f : Nat → Nat → Int} (h : Grid w T n mm k f) {i : Nat} (hi : i < k) (hn : i < n) : w.cell? ⟨T, i, none⟩ = some (.slice (some ⟨T + 1 + i, 0, none⟩) mm mm) := by
  rw [h.top.cell, slots_get hn, if_pos hi]
theorem Grid.cell {w : World} {T n mm k : Nat} {f : Nat → Nat → Int} (h : Grid w T n mm k f) {i j : Nat} (hi : i < k) (hj : j < mm) : w.cell? ⟨T + 1 + i, j, none⟩ = some (.int .i64 (f i j)) := by
  rw [(h.row i hi).cell, rowArr_get _ hj]
theorem Grid.below {w w' : World} {T n mm k B : Nat} {f : Nat → Nat → Int} (h : Grid w T n mm k f) (hb : Below B w w') (hB : T + 1 + k ≤ B) : Grid w' T n mm k f :=
  ⟨h.top.below hb (by omega), fun i hi => (h.row i hi).below hb (by omega)⟩
theorem Grid.put {w : World} {T n mm : Nat} {f : Nat → Nat → Int} (h : Grid w T n mm n f) {i j : Nat} (hi : i < n) (v : Int) : Grid (w.setCell ⟨T + 1 + i, j, none⟩ (.int .i64 v)) T n mm n (fun p q => if p = i ∧ q = j then v else f p q) := by
  refine ⟨h.top.far (by show T ≠ T + 1 + i; omega) _, fun p hp => ?_⟩
  by_cases e : p = i
  · subst e
    have := (h.row p hp).set_ j (.int .i64 v)
    rw [rowArr_set] at this
    have e2 : (fun q => if p = p ∧ q = j then v else f p q) = fun q => if q = j then v else f p q := by funext q; simp
    rw [e2]
    exact this
  · have e2 : (fun q => if p = i ∧ q = j then v else f p q) = f p := by funext q; simp [e]
    rw [e2]
    exact (h.row p hp).far (by show T + 1 + p ≠ T + 1 + i; omega) _

theorem info_int : (Try.prog.info? 3).map (fun i => (i.zero, i.size, i.bytes)) = some (some (.int .i64 0), 1, 8) := by kernel_rfl
theorem info_ints : (Try.prog.info? 25).map (fun i => (i.zero, i.size, i.bytes)) = some (some (.slice none 0 0), 1, 24) := by kernel_rfl
theorem run_make_any {P : Program} {t e : TypeId} {z : Value} {sz : Nat} (ht : P.underlying t = some (.slice e)) (hinfo : (P.info? e).map (fun i => (i.zero, i.size, i.bytes)) = some (some z, 1, sz)) (hz : z.cells = #[z]) {N : Int} {n : Nat} (hN : N = n) (hn : n * sz ≤ 281474976710656) (hn2 : n ≤ 9223372036854775807) (w : World) :
    (Instr.makeSlice t (.int .i64 N) (.int .i64 N)).run P w = .ok (.slice (some ⟨w.heap.size, 0, none⟩) n n) (w.alloc (.cells (madeCells #[z] n) e)) := by
  subst hN
  obtain ⟨i0, hi, hz0, hz1, hz2⟩ := info_parts hinfo
  have hb : (i0.bytes : Int) * (n : Int) ≤ 281474976710656 := by
    have h : ((n * sz : Nat) : Int) ≤ 281474976710656 := by omega
    rwa [Int.natCast_mul, Int.mul_comm, ← hz2] at h
  have h := run_make (P := P) w t e i0 z ht hi hz0 .i64 .i64 (n : Int) (n : Int) (by omega) (by omega) hb (by omega)
  simp only [Int.toNat_natCast, hz1, Nat.mul_one, hz] at h
  exact h
theorem index_step (l : List (Int × Int × Int)) (hl : l.length = 6) {k : Nat} {a b c : Int} (hk : l[k]? = some (a, b, c)) (w : World) :
    (Instr.index 53 (.agg (stepArr l)) (.int .i64 k)).run Try.prog w = .ok (.agg #[.int .i64 a, .int .i64 b, .int .i64 c]) w := by
  match l, hl with
  | [(a0, b0, c0), (a1, b1, c1), (a2, b2, c2), (a3, b3, c3), (a4, b4, c4), (a5, b5, c5)], _ =>
    match k with
    | 0 => simp at hk; obtain ⟨rfl, rfl, rfl⟩ := hk; show _ = _; kernel_rfl
    | 1 => simp at hk; obtain ⟨rfl, rfl, rfl⟩ := hk; show _ = _; kernel_rfl
    | 2 => simp at hk; obtain ⟨rfl, rfl, rfl⟩ := hk; show _ = _; kernel_rfl
    | 3 => simp at hk; obtain ⟨rfl, rfl, rfl⟩ := hk; show _ = _; kernel_rfl
    | 4 => simp at hk; obtain ⟨rfl, rfl, rfl⟩ := hk; show _ = _; kernel_rfl
    | 5 => simp at hk; obtain ⟨rfl, rfl, rfl⟩ := hk; show _ = _; kernel_rfl
    | k + 6 => simp at hk

end Go.Proofs.Ytnpdhbagfkilkaa
