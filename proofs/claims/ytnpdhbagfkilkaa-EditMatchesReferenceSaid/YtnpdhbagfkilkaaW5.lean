/- Walks: the editor's steps. -/
import Derived.Test.YtnpdhbagfkilkaaW4
import Derived.Test.YtnpdhbagfkilkaaLaws
set_option linter.unusedVariables false
set_option linter.unusedSimpArgs false
namespace Go.Proofs.Ytnpdhbagfkilkaa
open Go.RowKit

/-- the editor at block g -/
structure Ed (w : World) (g m : Nat) (W : Wt) (A : Option Addr) (n c : Nat) (x y : ByteArray) : Prop where
  blk : Blk w g 70 (edCells W A n c m x y)
  map : MapIs S2byte w m (nearMap W.near)
theorem Ed.below {w w' : World} {g m B : Nat} {W : Wt} {A : Option Addr} {n c : Nat} {x y : ByteArray} (h : Ed w g m W A n c x y) (hb : Below B w w') (hg : g < B) (hm : m < B) : Ed w' g m W A n c x y :=
  ⟨h.blk.below hb hg, h.map.below hb hm⟩

def triple (s : Int × Int × Int) : List Value := [.int .i64 s.1, .int .i64 s.2.1, .int .i64 s.2.2]
def stepArr (l : List (Int × Int × Int)) : Array Value := (l.flatMap triple).toArray
def initArr (k : Nat) : Array Value := stepArr (List.replicate k Wt.no ++ List.replicate (6 - k) (0, 0, 0))

theorem initArr0 : initArr 0 = #[.int .i64 0, .int .i64 0, .int .i64 0, .int .i64 0, .int .i64 0, .int .i64 0, .int .i64 0, .int .i64 0, .int .i64 0, .int .i64 0, .int .i64 0, .int .i64 0, .int .i64 0, .int .i64 0, .int .i64 0, .int .i64 0, .int .i64 0, .int .i64 0] := rfl
theorem initArr1 : initArr 1 = #[.int .i64 (-1), .int .i64 0, .int .i64 0, .int .i64 0, .int .i64 0, .int .i64 0, .int .i64 0, .int .i64 0, .int .i64 0, .int .i64 0, .int .i64 0, .int .i64 0, .int .i64 0, .int .i64 0, .int .i64 0, .int .i64 0, .int .i64 0, .int .i64 0] := rfl
theorem initArr2 : initArr 2 = #[.int .i64 (-1), .int .i64 0, .int .i64 0, .int .i64 (-1), .int .i64 0, .int .i64 0, .int .i64 0, .int .i64 0, .int .i64 0, .int .i64 0, .int .i64 0, .int .i64 0, .int .i64 0, .int .i64 0, .int .i64 0, .int .i64 0, .int .i64 0, .int .i64 0] := rfl
theorem initArr3 : initArr 3 = #[.int .i64 (-1), .int .i64 0, .int .i64 0, .int .i64 (-1), .int .i64 0, .int .i64 0, .int .i64 (-1), .int .i64 0, .int .i64 0, .int .i64 0, .int .i64 0, .int .i64 0, .int .i64 0, .int .i64 0, .int .i64 0, .int .i64 0, .int .i64 0, .int .i64 0] := rfl
theorem initArr4 : initArr 4 = #[.int .i64 (-1), .int .i64 0, .int .i64 0, .int .i64 (-1), .int .i64 0, .int .i64 0, .int .i64 (-1), .int .i64 0, .int .i64 0, .int .i64 (-1), .int .i64 0, .int .i64 0, .int .i64 0, .int .i64 0, .int .i64 0, .int .i64 0, .int .i64 0, .int .i64 0] := rfl
theorem initArr5 : initArr 5 = #[.int .i64 (-1), .int .i64 0, .int .i64 0, .int .i64 (-1), .int .i64 0, .int .i64 0, .int .i64 (-1), .int .i64 0, .int .i64 0, .int .i64 (-1), .int .i64 0, .int .i64 0, .int .i64 (-1), .int .i64 0, .int .i64 0, .int .i64 0, .int .i64 0, .int .i64 0] := rfl
theorem initArr6 : initArr 6 = #[.int .i64 (-1), .int .i64 0, .int .i64 0, .int .i64 (-1), .int .i64 0, .int .i64 0, .int .i64 (-1), .int .i64 0, .int .i64 0, .int .i64 (-1), .int .i64 0, .int .i64 0, .int .i64 (-1), .int .i64 0, .int .i64 0, .int .i64 (-1), .int .i64 0, .int .i64 0] := rfl

theorem Ed.facts {w : World} {g m : Nat} {W : Wt} {A : Option Addr} {n c : Nat} {x y : ByteArray} (h : Ed w g m W A n c x y) :
    w.cell? ⟨g, 0, none⟩ = some (.int .i64 W.ins) ∧ w.cell? ⟨g, 1, none⟩ = some (.int .i64 W.del) ∧ w.cell? ⟨g, 2, none⟩ = some (.int .i64 W.chg) ∧ w.cell? ⟨g, 3, none⟩ = some (.int .i64 W.swp) ∧
    w.cell? ⟨g, 5, none⟩ = some (.map (some m)) ∧ w.cell? ⟨g, 6, none⟩ = some (.string x) ∧ w.cell? ⟨g, 7, none⟩ = some (.string y) :=
  ⟨h.blk.cell 0, h.blk.cell 1, h.blk.cell 2, h.blk.cell 3, h.blk.cell 5, h.blk.cell 6, h.blk.cell 7⟩
theorem Ed.only {w w' : World} {g m o : Nat} {W : Wt} {A : Option Addr} {n c : Nat} {x y : ByteArray} (ho : Only w w' o) (h : Ed w g m W A n c x y) (hg : g ≠ o) (hm : m ≠ o) : Ed w' g m W A n c x y :=
  ⟨ho.blk h.blk hg, h.map.same (ho.same h.map.lt hm)⟩
theorem Ed.drewN {w : World} {g m : Nat} {W : Wt} {A : Option Addr} {n c : Nat} {x y : ByteArray} (h : Ed w g m W A n c x y) (q : Nat) : Ed (w.drewN q) g m W A n c x y := ⟨h.blk, h.map.drewN q⟩

/-- while the steps are made: the result's block, the local's block -/
structure StRel (wr w : World) (g m : Nat) (W : Wt) (A : Option Addr) (n c : Nat) (x y : ByteArray) (l : List (Int × Int × Int)) : Prop where
  res : Blk wr w.heap.size 53 (initArr 0)
  out : Blk wr (w.heap.size + 1) 53 (stepArr l)
  bel : Below w.heap.size w wr
  ed : Ed wr g m W A n c x y
def initL (k : Nat) : List (Int × Int × Int) := List.replicate k Wt.no ++ List.replicate (6 - k) (0, 0, 0)
theorem StRel.start {w : World} {g m : Nat} {W : Wt} {A : Option Addr} {n c : Nat} {x y : ByteArray} (h : Ed w g m W A n c x y) :
    StRel ((w.alloc (.cells (initArr 0) 53)).alloc (.cells (initArr 0) 53)) w g m W A n c x y (initL 0) := by
  have hb : Below w.heap.size w ((w.alloc (.cells (initArr 0) 53)).alloc (.cells (initArr 0) 53)) := ((Below.refl _ _).alloc (Nat.le_refl _) _).alloc (by simp) _
  exact ⟨heap_alloc2_old _ _ _, heap_alloc2_new _ _ _, hb, h.below hb h.blk.lt h.map.lt⟩
theorem initL_cell (k : Nat) (hk : k < 6) : (stepArr (initL k))[k * 3]? = some (.int .i64 0) := by
  match k, hk with
  | 0, _ | 1, _ | 2, _ | 3, _ | 4, _ | 5, _ => rfl
theorem initL_set (k : Nat) (hk : k < 6) : (stepArr (initL k)).setIfInBounds (k * 3) (.int .i64 (-1)) = stepArr (initL (k + 1)) := by
  match k, hk with
  | 0, _ | 1, _ | 2, _ | 3, _ | 4, _ | 5, _ => rfl
theorem StRel.next {wr w : World} {g m : Nat} {W : Wt} {A : Option Addr} {n c : Nat} {x y : ByteArray} {k : Nat} (h : StRel wr w g m W A n c x y (initL k)) (hk : k < 6) (hg : g < w.heap.size) (hm : m < w.heap.size) :
    StRel (wr.setCell ⟨w.heap.size + 1, k * 3, none⟩ (.int .i64 (-1))) w g m W A n c x y (initL (k + 1)) := by
  have h1 := h.out.set_ (k * 3) (.int .i64 (-1))
  rw [initL_set k hk] at h1
  exact ⟨h.res.far (by simp) _, h1, h.bel.setCell (by simp) _, h.ed.below (B := w.heap.size) ((Below.refl _ _).setCell (by simp) _) hg hm⟩

theorem splice_step {l : List (Int × Int × Int)} (hl : l.length = 6) {q : Nat} (hq : q < 6) (a b c : Int) : splice (stepArr l) (3 * q) #[.int .i64 a, .int .i64 b, .int .i64 c] = stepArr (l.set q (a, b, c)) := by
  match l, hl with
  | [t0, t1, t2, t3, t4, t5], _ =>
    match q, hq with
    | 0, _ | 1, _ | 2, _ | 3, _ | 4, _ | 5, _ => rfl
theorem stepArr_size {l : List (Int × Int × Int)} (hl : l.length = 6) : (stepArr l).size = 18 := by
  match l, hl with
  | [t0, t1, t2, t3, t4, t5], _ => rfl
theorem fit3 {l : List (Int × Int × Int)} (hl : l.length = 6) {q : Nat} (hq : q < 6) {a b c : Value} : 3 * q + (#[a, b, c] : Array Value).size ≤ (stepArr l).size := by
  rw [stepArr_size hl]; show 3 * q + 3 ≤ 18; omega
theorem fit18 {l : List (Int × Int × Int)} (hl : l.length = 6) : 0 + (stepArr l).size ≤ (initArr 0).size := by
  rw [stepArr_size hl]; exact Nat.le_refl _
theorem stepArr_one (l : List (Int × Int × Int)) : ∀ v ∈ (stepArr l).toList, v.oneCell' = true := by
  intro v hv
  simp only [stepArr, List.mem_flatMap, triple] at hv
  obtain ⟨s, _, hv⟩ := hv
  simp at hv
  rcases hv with rfl | rfl | rfl <;> rfl
theorem splice_all {l : List (Int × Int × Int)} (hl : l.length = 6) : splice (initArr 0) 0 (stepArr l) = stepArr l := by
  match l, hl with
  | [t0, t1, t2, t3, t4, t5], _ => rfl
theorem three_one (a b c : Int) : ∀ v ∈ (#[Value.int .i64 a, .int .i64 b, .int .i64 c] : Array Value).toList, v.oneCell' = true := by
  intro v hv
  simp at hv
  rcases hv with rfl | rfl | rfl <;> rfl
theorem at_byte (x : ByteArray) {i : Nat} (h : i < x.size) : Wt.at_ x.data.toList i = (x[i].toNat : Int) := by
  unfold Wt.at_
  rw [List.getElem?_eq_getElem (by simpa using h)]
  rfl
/-- a step put into the local -/
theorem StRel.put {w1 w2 w : World} {g m : Nat} {W : Wt} {A : Option Addr} {n c : Nat} {x y : ByteArray} {l : List (Int × Int × Int)} (h : StRel w1 w g m W A n c x y l) (hl : l.length = 6) {q : Nat} (hq : q < 6) {a b d : Int}
    (ho : Only w1 w2 (w.heap.size + 1)) (hb : Blk w2 (w.heap.size + 1) 53 (splice (stepArr l) (3 * q) #[.int .i64 a, .int .i64 b, .int .i64 d])) (hg : g < w.heap.size) (hm : m < w.heap.size) :
    StRel w2 w g m W A n c x y (l.set q (a, b, d)) := by
  rw [splice_step hl hq] at hb
  have := h.out.lt
  exact ⟨ho.blk h.res (by omega), hb, ho.below h.bel (by omega) (by omega), h.ed.only ho (by omega) (by omega)⟩
theorem StRel.drewN {w1 w : World} {g m : Nat} {W : Wt} {A : Option Addr} {n c : Nat} {x y : ByteArray} {l : List (Int × Int × Int)} (h : StRel w1 w g m W A n c x y l) (q : Nat) : StRel (w1.drewN q) w g m W A n c x y l :=
  ⟨h.res, h.out, below_drewN h.bel q, h.ed.drewN q⟩
/-- the end: the result's block holds them -/
theorem StRel.fin {w1 w2 w : World} {g m : Nat} {W : Wt} {A : Option Addr} {n c : Nat} {x y : ByteArray} {l : List (Int × Int × Int)} (h : StRel w1 w g m W A n c x y l) (hl : l.length = 6)
    (ho : Only w1 w2 w.heap.size) (hb : Blk w2 w.heap.size 53 (splice (initArr 0) 0 (stepArr l))) :
    Blk w2 w.heap.size 53 (stepArr l) ∧ Below w.heap.size w w2 := by
  rw [splice_all hl] at hb
  have := h.res.lt
  exact ⟨hb, ho.below h.bel (by omega) (by omega)⟩

set_option maxHeartbeats 1000000 in
theorem stepsA (W : Wt) (hW : W.valid = true) (x y : ByteArray) (A : Option Addr) (n c g m i j : Nat) (w : World) (hE : Ed w g m W A n c x y) (hx : x.size ≤ 120) (hy : y.size ≤ 120) (hi : i ≤ x.size) (hj : j ≤ y.size) (hij : ¬ i < x.size) (hjj : ¬ j < y.size) :
    Calls Try.prog 31 #[.pointer (some ⟨g, 0, none⟩), .int .i64 i, .int .i64 j] w fun e w' => e = .returned (.agg (stepArr (W.steps x.data.toList y.data.toList i j))) ∧ Below w.heap.size w w' := by
  have hg := hE.blk.lt
  have hm := hE.map.lt
  have hmO : m < w.heap.size := hm
  have HS := hide (StRel.start hE)
  rw [initArr0] at HS
  clear hE
  have HW := hide hW
  clear hW
  go_enter Try.func31, Try.ntmps31
  go_wp2
  go_loopw [15] (fun q wr => ∃ k : Nat, k ≤ 6 ∧ q = .int .i64 k ∧ StRel wr w g m W A n c x y (initL k)) (fun q _ => 6 - (intOf q).toNat)
  case atStart => exact ⟨0, by omega, rfl, HS.out⟩
  case round =>
    obtain ⟨k, hk, rfl, hrel⟩ := hrel
    by_cases hlt : k < 6
    · have d0 : wr.cell? ⟨w.heap.size + 1, k * 3, none⟩ = some (.int .i64 0) := (hrel.out.cell _).trans (initL_cell k hlt)
      have d1 : wr.frozen? ⟨w.heap.size + 1, k * 3, none⟩ = false := hrel.out.frozen _
      have Hn := hide (hrel.next hlt hg hm)
      clear hrel
      go_wp2
      go_roundw
      case rel => exact ⟨k + 1, by omega, by go_num, Hn.out⟩
      case measure => simp [intOf]; omega
    · obtain rfl : k = 6 := by omega
      obtain ⟨e0, e1, e2, e3, e5, e6, e7⟩ := hrel.ed.facts
      clear HS
      have HS := hide hrel
      clear hrel hlt hk
      have HF : Hid (W.steps x.data.toList y.data.toList i j = [Wt.no, Wt.no, Wt.no, Wt.no, Wt.no, Wt.no]) := by
        show _ = _
        simp [Wt.steps, Wt.same, Wt.change, Wt.insert, Wt.delete, Wt.swap, hij, hjj, show ¬ i + 1 < x.size by omega]
      go_wp2
      go_quiet (fail)
      go_wp2_with (first
        | ((with_reducible show wpList _ _ _ (Oper.mk _ (Op.load 53 (.tmp 7)) _ _ _ _ :: _) _ _); refine wpList_load_all rfl 53 (.tmp 7) rfl (w.heap.size + 1) rfl 53 _ _ HS.out.out Try.underlying53 rfl (by kernel_rfl) ?_)
        | ((with_reducible show wpList _ _ _ (Oper.mk _ (Op.store 53 (.tmp 6) (.tmp 139)) _ _ _ _ :: _) _ _); refine wpList_store_part rfl 53 (.tmp 6) (.tmp 139) rfl w.heap.size 0 _ rfl rfl 53 _ HS.out.res (by kernel_rfl) (fit18 rfl) (stepArr_one _) ?_; intro w2 ho2 hb2; have HZ := hide (StRel.fin (l := (initL 6)) (by first | exact HS.out | exact HS.out.drewN _) rfl ho2 hb2); clear ho2 hb2))
      refine bodyPost_ret (results_cell_blk rfl _ _ w.heap.size 53 _ _ rfl HZ.out.1 Try.underlying53 rfl (by kernel_rfl)) rfl ⟨?_, HZ.out.2⟩
      rw [HF.out]
      rfl

set_option maxHeartbeats 1000000 in
theorem stepsB (W : Wt) (hW : W.valid = true) (x y : ByteArray) (A : Option Addr) (n c g m i j : Nat) (w : World) (hE : Ed w g m W A n c x y) (hx : x.size ≤ 120) (hy : y.size ≤ 120) (hi : i ≤ x.size) (hj : j ≤ y.size) (hij : ¬ i < x.size) (hjj : j < y.size) :
    Calls Try.prog 31 #[.pointer (some ⟨g, 0, none⟩), .int .i64 i, .int .i64 j] w fun e w' => e = .returned (.agg (stepArr (W.steps x.data.toList y.data.toList i j))) ∧ Below w.heap.size w w' := by
  have hg := hE.blk.lt
  have hm := hE.map.lt
  have hmO : m < w.heap.size := hm
  have HS := hide (StRel.start hE)
  rw [initArr0] at HS
  clear hE
  have HW := hide hW
  clear hW
  go_enter Try.func31, Try.ntmps31
  go_wp2
  go_loopw [15] (fun q wr => ∃ k : Nat, k ≤ 6 ∧ q = .int .i64 k ∧ StRel wr w g m W A n c x y (initL k)) (fun q _ => 6 - (intOf q).toNat)
  case atStart => exact ⟨0, by omega, rfl, HS.out⟩
  case round =>
    obtain ⟨k, hk, rfl, hrel⟩ := hrel
    by_cases hlt : k < 6
    · have d0 : wr.cell? ⟨w.heap.size + 1, k * 3, none⟩ = some (.int .i64 0) := (hrel.out.cell _).trans (initL_cell k hlt)
      have d1 : wr.frozen? ⟨w.heap.size + 1, k * 3, none⟩ = false := hrel.out.frozen _
      have Hn := hide (hrel.next hlt hg hm)
      clear hrel
      go_wp2
      go_roundw
      case rel => exact ⟨k + 1, by omega, by go_num, Hn.out⟩
      case measure => simp [intOf]; omega
    · obtain rfl : k = 6 := by omega
      obtain ⟨e0, e1, e2, e3, e5, e6, e7⟩ := hrel.ed.facts
      clear HS
      have HS := hide hrel
      clear hrel hlt hk
      have HF : Hid (W.steps x.data.toList y.data.toList i j = [Wt.no, Wt.no, Wt.no, (W.ins, 0, 1), Wt.no, Wt.no]) := by
        show _ = _
        simp [Wt.steps, Wt.same, Wt.change, Wt.insert, Wt.delete, Wt.swap, hij, hjj, show ¬ i + 1 < x.size by omega]
      go_wp2
      go_quiet (fail)
      go_wp2_with (first
        | ((with_reducible show wpList _ _ _ (Oper.mk _ (Op.store 52 (.tmp 129) (.tmp 128)) _ _ _ _ :: _) _ _); refine wpList_store_part rfl 52 (.tmp 129) (.tmp 128) rfl (w.heap.size + 1) (3 * 3) _ rfl rfl 53 _ HS.out.out (by kernel_rfl) (fit3 rfl (by omega)) (three_one _ _ _) ?_; intro w2 ho2 hb2; have HT := hide (StRel.put (l := (initL 6)) (q := 3) (by first | exact HS.out | exact HS.out.drewN _) rfl (by omega) ho2 hb2 hg hm); clear HS ho2 hb2 e0 e1 e2 e3 e5 e6 e7; have HS := HT; clear HT; obtain ⟨e0, e1, e2, e3, e5, e6, e7⟩ := HS.out.ed.facts)
        | ((with_reducible show wpList _ _ _ (Oper.mk _ (Op.load 53 (.tmp 7)) _ _ _ _ :: _) _ _); refine wpList_load_all rfl 53 (.tmp 7) rfl (w.heap.size + 1) rfl 53 _ _ HS.out.out Try.underlying53 rfl (by kernel_rfl) ?_)
        | ((with_reducible show wpList _ _ _ (Oper.mk _ (Op.store 53 (.tmp 6) (.tmp 139)) _ _ _ _ :: _) _ _); refine wpList_store_part rfl 53 (.tmp 6) (.tmp 139) rfl w.heap.size 0 _ rfl rfl 53 _ HS.out.res (by kernel_rfl) (fit18 rfl) (stepArr_one _) ?_; intro w2 ho2 hb2; have HZ := hide (StRel.fin (l := ((initL 6).set 3 (W.ins, 0, 1))) (by first | exact HS.out | exact HS.out.drewN _) rfl ho2 hb2); clear ho2 hb2))
      refine bodyPost_ret (results_cell_blk rfl _ _ w.heap.size 53 _ _ rfl HZ.out.1 Try.underlying53 rfl (by kernel_rfl)) rfl ⟨?_, HZ.out.2⟩
      rw [HF.out]
      rfl

set_option maxHeartbeats 1000000 in
theorem stepsC (W : Wt) (hW : W.valid = true) (x y : ByteArray) (A : Option Addr) (n c g m i j : Nat) (w : World) (hE : Ed w g m W A n c x y) (hx : x.size ≤ 120) (hy : y.size ≤ 120) (hi : i ≤ x.size) (hj : j ≤ y.size) (hij : i < x.size) (hjj : ¬ j < y.size) :
    Calls Try.prog 31 #[.pointer (some ⟨g, 0, none⟩), .int .i64 i, .int .i64 j] w fun e w' => e = .returned (.agg (stepArr (W.steps x.data.toList y.data.toList i j))) ∧ Below w.heap.size w w' := by
  have hg := hE.blk.lt
  have hm := hE.map.lt
  have hmO : m < w.heap.size := hm
  have HS := hide (StRel.start hE)
  rw [initArr0] at HS
  clear hE
  have HW := hide hW
  clear hW
  go_enter Try.func31, Try.ntmps31
  go_wp2
  go_loopw [15] (fun q wr => ∃ k : Nat, k ≤ 6 ∧ q = .int .i64 k ∧ StRel wr w g m W A n c x y (initL k)) (fun q _ => 6 - (intOf q).toNat)
  case atStart => exact ⟨0, by omega, rfl, HS.out⟩
  case round =>
    obtain ⟨k, hk, rfl, hrel⟩ := hrel
    by_cases hlt : k < 6
    · have d0 : wr.cell? ⟨w.heap.size + 1, k * 3, none⟩ = some (.int .i64 0) := (hrel.out.cell _).trans (initL_cell k hlt)
      have d1 : wr.frozen? ⟨w.heap.size + 1, k * 3, none⟩ = false := hrel.out.frozen _
      have Hn := hide (hrel.next hlt hg hm)
      clear hrel
      go_wp2
      go_roundw
      case rel => exact ⟨k + 1, by omega, by go_num, Hn.out⟩
      case measure => simp [intOf]; omega
    · obtain rfl : k = 6 := by omega
      obtain ⟨e0, e1, e2, e3, e5, e6, e7⟩ := hrel.ed.facts
      clear HS
      have HS := hide hrel
      clear hrel hlt hk
      have HF : Hid (W.steps x.data.toList y.data.toList i j = [Wt.no, Wt.no, Wt.no, Wt.no, (W.del, 1, 0), Wt.no]) := by
        show _ = _
        simp [Wt.steps, Wt.same, Wt.change, Wt.insert, Wt.delete, Wt.swap, hij, hjj, show ¬ j + 1 < y.size by omega]
      go_wp2
      go_quiet (fail)
      go_wp2_with (first
        | ((with_reducible show wpList _ _ _ (Oper.mk _ (Op.store 52 (.tmp 138) (.tmp 137)) _ _ _ _ :: _) _ _); refine wpList_store_part rfl 52 (.tmp 138) (.tmp 137) rfl (w.heap.size + 1) (3 * 4) _ rfl rfl 53 _ HS.out.out (by kernel_rfl) (fit3 rfl (by omega)) (three_one _ _ _) ?_; intro w2 ho2 hb2; have HT := hide (StRel.put (l := (initL 6)) (q := 4) (by first | exact HS.out | exact HS.out.drewN _) rfl (by omega) ho2 hb2 hg hm); clear HS ho2 hb2 e0 e1 e2 e3 e5 e6 e7; have HS := HT; clear HT; obtain ⟨e0, e1, e2, e3, e5, e6, e7⟩ := HS.out.ed.facts)
        | ((with_reducible show wpList _ _ _ (Oper.mk _ (Op.load 53 (.tmp 7)) _ _ _ _ :: _) _ _); refine wpList_load_all rfl 53 (.tmp 7) rfl (w.heap.size + 1) rfl 53 _ _ HS.out.out Try.underlying53 rfl (by kernel_rfl) ?_)
        | ((with_reducible show wpList _ _ _ (Oper.mk _ (Op.store 53 (.tmp 6) (.tmp 139)) _ _ _ _ :: _) _ _); refine wpList_store_part rfl 53 (.tmp 6) (.tmp 139) rfl w.heap.size 0 _ rfl rfl 53 _ HS.out.res (by kernel_rfl) (fit18 rfl) (stepArr_one _) ?_; intro w2 ho2 hb2; have HZ := hide (StRel.fin (l := ((initL 6).set 4 (W.del, 1, 0))) (by first | exact HS.out | exact HS.out.drewN _) rfl ho2 hb2); clear ho2 hb2))
      refine bodyPost_ret (results_cell_blk rfl _ _ w.heap.size 53 _ _ rfl HZ.out.1 Try.underlying53 rfl (by kernel_rfl)) rfl ⟨?_, HZ.out.2⟩
      rw [HF.out]
      rfl

end Go.Proofs.Ytnpdhbagfkilkaa
