/- Walks: sample, head. -/
import Derived.Test.YtnpdhbagfkilkaaW15
import Derived.Test.YtnpdhbagfkilkaaPlain9
set_option linter.unusedVariables false
set_option linter.unusedSimpArgs false
namespace Go.Proofs.Ytnpdhbagfkilkaa
open Go.RowKit

theorem Reads.of_blk {w : World} {g : Nat} {t : TypeId} {cs : Array Value} {size n : Nat} {xs : List Value} (h : Blk w g t cs) (hx : cs = xs.toArray) (hs : xs.length = n * size) : Reads w w.heap.size size (some ⟨g, 0, none⟩) n xs := by
  refine ⟨hs, fun _ => ⟨⟨g, 0, none⟩, rfl, h.lt, fun j u hu => ?_⟩⟩
  have e1 : (⟨g, 0, none⟩ : Addr).add j = ⟨g, j, none⟩ := by unfold Addr.add; split <;> simp_all
  rw [e1, h.cell, hx]
  simpa using hu
theorem Near.of_blk {w : World} {g : Nat} {t : TypeId} {cs : Array Value} {l : List (Int × Int × Int)} (h : Blk w g t cs) (hx : cs = (nearCells l).toArray) (hs : (nearCells l).length = l.length * 3) : Near w w.heap.size (some ⟨g, 0, none⟩) l.length l := ⟨rfl, Reads.of_blk h hx hs⟩
theorem Ints.of_blk {w : World} {g : Nat} {t : TypeId} {cs : Array Value} {l : List Int} (h : Blk w g t cs) (hx : cs = (l.map (Value.int .i64)).toArray) : Ints w w.heap.size (some ⟨g, 0, none⟩) l.length l := Reads.of_blk h hx (by simp)

def SampleAt (w : World) (v : Value) : Prop := ∃ A, v = wval sW A 1 1 ∧ Near w w.heap.size A 1 sW.near
set_option maxHeartbeats 400000 in
theorem sample_any (w : World) : Calls Try.prog 24 #[] w fun e w' => ∃ v, e = .returned v ∧ SampleAt w' v ∧ Below w.heap.size w w' := by
  go_enter Try.func24, Try.ntmps24
  go_wp2
  refine bodyPost_ret (results_cell_blk rfl _ _ w.heap.size 24 _ _ rfl (heap_alloc2_old _ _ _) Try.underlying24 rfl (by kernel_rfl)) rfl ⟨_, rfl, ⟨some ⟨w.heap.size + 1, 0, none⟩, rfl, ?_⟩, ?_⟩
  · exact Near.of_blk (l := sW.near) (heap_alloc2_new _ _ _) rfl rfl
  · exact ((Below.refl _ _).alloc (Nat.le_refl _) _).alloc (by simp) _

theorem lits_ints (zs : List Int) (w : World) (b : Nat) (hb : b = w.heap.size) : Ints (w.alloc (.cells (zs.map (Value.int .i64)).toArray 3)) (w.heap.size + 1) (some ⟨b, 0, none⟩) zs.length zs := by
  subst hb
  have := Ints.of_blk (Blk.new w 3 (zs.map (Value.int .i64)).toArray) (l := zs) rfl
  simpa using this
/-- what head keeps: the weights' box and the near list; w0: the world at the box's making -/
structure HeadS (w0 w : World) (A : Option Addr) : Prop where
  box : Box w w0 sW A 1 1
  near : Near w w0.heap.size A 1 sW.near
theorem HeadS.next {w0 w w' : World} {A : Option Addr} (h : HeadS w0 w A) (hb : Below w.heap.size w w') : HeadS w0 w' A :=
  ⟨h.box.next hb, h.near.below hb h.box.bel.size⟩
theorem HeadS.start {w0 : World} {A : Option Addr} (h : Near w0 w0.heap.size A 1 sW.near) : HeadS w0 (w0.alloc (.cells #[.int .i64 2, .int .i64 2, .int .i64 3, .int .i64 1, .slice A 1 1] 24)) A :=
  ⟨Box.start w0 sW A 1 1, h.below ((Below.refl _ _).alloc (Nat.le_refl _) _) (Nat.le_refl _)⟩
def hW (A : Option Addr) : Value := .agg #[.int .i64 2, .int .i64 2, .int .i64 3, .int .i64 1, .slice A 1 1]
theorem hd_dist {w0 w : World} {A : Option Addr} (H : HeadS w0 w A) (x y : ByteArray) (d : Int) (hx : x.size ≤ maxLen) (hy : y.size ≤ maxLen) (e : dist sW x.data.toList y.data.toList = d ∧ errn (ok3 sW x.data.toList y.data.toList) = 0) :
    Calls Try.prog 12 #[hW A, .string x, .string y] w fun e w' => e = .returned (.tuple #[.int .i64 d, .int .i64 0]) ∧ HeadS w0 w' A := by
  obtain ⟨e1, e2⟩ := e
  refine (distance_any sW A 1 1 w0.heap.size x y w H.near H.box.bel.size (by omega) hx hy).mono ?_
  rintro e w' ⟨rfl, hb⟩
  rw [e1, e2]
  exact ⟨rfl, H.next hb⟩
theorem hd_best {w0 w : World} {A : Option Addr} (H : HeadS w0 w A) (x y : ByteArray) (d : Int) (l : List Int) (hx : x.size ≤ maxLen) (hy : y.size ≤ maxLen) (e : dist sW x.data.toList y.data.toList = d ∧ errn (ok3 sW x.data.toList y.data.toList) = 0 ∧ bestL sW x.data.toList y.data.toList = l) :
    Calls Try.prog 14 #[hW A, .string x, .string y] w fun e w' => ∃ v, e = .returned (.tuple #[v, .int .i64 d, .int .i64 0]) ∧ IntsV w' v l ∧ Below w.heap.size w w' ∧ HeadS w0 w' A := by
  obtain ⟨e1, e2, e3⟩ := e
  refine (best_any sW A 1 1 w0.heap.size x y w H.near H.box.bel.size (by omega) hx hy).mono ?_
  rintro e w' ⟨v, rfl, hv, hb⟩
  rw [e3] at hv
  rw [e1, e2]
  exact ⟨v, rfl, hv, hb, H.next hb⟩
theorem hd_ahead {w0 w : World} {A : Option Addr} (H : HeadS w0 w A) (x y : ByteArray) (d : Int) (hx : x.size ≤ maxLen) (hy : y.size ≤ maxLen) (e : ahead sW x.data.toList y.data.toList = d ∧ errn (ok3 sW x.data.toList y.data.toList) = 0) :
    Calls Try.prog 16 #[hW A, .string x, .string y] w fun e w' => e = .returned (.tuple #[.int .i64 d, .int .i64 0]) ∧ Below w.heap.size w w' ∧ HeadS w0 w' A := by
  obtain ⟨e1, e2⟩ := e
  refine (ahead_any sW A 1 1 w0.heap.size x y w H.near H.box.bel.size (by omega) hx hy).mono ?_
  rintro e w' ⟨rfl, hb⟩
  rw [e1, e2]
  exact ⟨rfl, hb, H.next hb⟩
/-- a list of numbers that lies below what is made from now on -/
def Keep (w : World) (A : Option Addr) (n : Nat) (l : List Int) : Prop := Ints w w.heap.size A n l
theorem Keep.next {w w' : World} {A : Option Addr} {n : Nat} {l : List Int} (h : Keep w A n l) (hb : Below w.heap.size w w') : Keep w' A n l := (Ints.below h hb (Nat.le_refl _)).more hb.size
theorem Keep.alloc {w : World} {A : Option Addr} {n : Nat} {l : List Int} (h : Keep w A n l) (o : Obj) : Keep (w.alloc o) A n l := h.next ((Below.refl _ _).alloc (Nat.le_refl _) _)
theorem Keep.drewN {w : World} {A : Option Addr} {n : Nat} {l : List Int} (h : Keep w A n l) (k : Nat) : Keep (w.drewN k) A n l := h.next (below_drewN (Below.refl _ _) k)
theorem HeadS.alloc {w0 w : World} {A : Option Addr} (h : HeadS w0 w A) (o : Obj) : HeadS w0 (w.alloc o) A := h.next ((Below.refl _ _).alloc (Nat.le_refl _) _)
theorem HeadS.drewN {w0 w : World} {A : Option Addr} (h : HeadS w0 w A) (k : Nat) : HeadS w0 (w.drewN k) A := h.next (below_drewN (Below.refl _ _) k)
theorem HeadS.facts {w0 w : World} {A : Option Addr} (h : HeadS w0 w A) : w.cell? ⟨w0.heap.size, 0, none⟩ = some (.int .i64 2) ∧ w.cell? ⟨w0.heap.size, 1, none⟩ = some (.int .i64 2) ∧ w.cell? ⟨w0.heap.size, 2, none⟩ = some (.int .i64 3) ∧ w.cell? ⟨w0.heap.size, 3, none⟩ = some (.int .i64 1) ∧ w.cell? ⟨w0.heap.size, 4, none⟩ = some (.slice A 1 1) := h.box.facts
theorem hd_check {w0 w : World} {A : Option Addr} (H : HeadS w0 w A) (b : Nat) (hb : b = w.heap.size) :
    Calls Try.prog 18 #[hW A, .string ⟨#[97, 98, 99]⟩, .string ⟨#[97, 99]⟩, .slice (some ⟨b, 0, none⟩) 3 3] (w.alloc (.cells #[.int .i64 1, .int .i64 4, .int .i64 1] 3)) fun e w' => e = .returned (.tuple #[.int .i64 2, .bool true]) ∧ Below w.heap.size w w' ∧ HeadS w0 w' A := by
  have hi : Ints (w.alloc (.cells #[.int .i64 1, .int .i64 4, .int .i64 1] 3)) (w.heap.size + 1) (some ⟨b, 0, none⟩) 3 [1, 4, 1] := lits_ints [1, 4, 1] w b hb
  have H' := H.alloc (.cells #[.int .i64 1, .int .i64 4, .int .i64 1] 3)
  refine (check_any sW A 1 1 (w.heap.size + 1) ⟨#[97, 98, 99]⟩ ⟨#[97, 99]⟩ (some ⟨b, 0, none⟩) 3 3 [1, 4, 1] _ (H'.near.more (by have := H.box.bel.size; omega)) (by simp) (by omega) (by decide) (by decide) hi (by omega)).mono ?_
  rintro e w' ⟨rfl, hb⟩
  have e1 : Wt.check sW (ByteArray.mk #[97, 98, 99]).data.toList (ByteArray.mk #[97, 99]).data.toList [1, 4, 1] = some 2 := ex7
  rw [e1]
  exact ⟨rfl, ((Below.refl _ _).alloc (Nat.le_refl _) _).trans (hb.mono (by simp)), H'.next hb⟩
theorem hd_ints (l : List Int) {w : World} {A : Option Addr} {n : Nat} (h : Keep w A n l) (b c : Nat) (hb : b = w.heap.size) (hn : n = l.length) (hl : l.length ≤ 1000) :
    Calls Try.prog 22 #[.slice A n c, .slice (some ⟨b, 0, none⟩) l.length l.length] (w.alloc (.cells (l.map (Value.int .i64)).toArray 3)) fun e w' => e = .returned (.bool true) ∧ Below w.heap.size w w' := by
  refine (ints_any A (some ⟨b, 0, none⟩) n l.length c l.length l l (w.heap.size + 1) _ ((h.alloc _).more (by simp)) (lits_ints l w b hb) (by omega) (by omega)).mono ?_
  rintro e w' ⟨rfl, k, rfl⟩
  exact ⟨by simp, below_drewN ((Below.refl _ _).alloc (Nat.le_refl _) _) k⟩
theorem hd_ints1 {w : World} {A : Option Addr} (h : Keep w A 1 [5]) (b c : Nat) (hb : b = w.heap.size) :
    Calls Try.prog 22 #[.slice A 1 c, .slice (some ⟨b, 0, none⟩) 1 1] (w.alloc (.cells #[.int .i64 5] 3)) fun e w' => e = .returned (.bool true) ∧ Below w.heap.size w w' := hd_ints [5] h b c hb rfl (by simp)
theorem hd_ints3 {w : World} {A : Option Addr} (h : Keep w A 3 [1, 4, 1]) (b c : Nat) (hb : b = w.heap.size) :
    Calls Try.prog 22 #[.slice A 3 c, .slice (some ⟨b, 0, none⟩) 3 3] (w.alloc (.cells #[.int .i64 1, .int .i64 4, .int .i64 1] 3)) fun e w' => e = .returned (.bool true) ∧ Below w.heap.size w w' := hd_ints [1, 4, 1] h b c hb rfl (by simp)
theorem hd_valid {w0 w : World} {A : Option Addr} (H : HeadS w0 w A) : Calls Try.prog 20 #[hW A] w fun e w' => e = .returned (.bool true) ∧ Below w.heap.size w w' ∧ HeadS w0 w' A := by
  refine (valid_try sW A 1 1 w0.heap.size w H.near H.box.bel.size (by omega)).mono ?_
  rintro e w' ⟨rfl, hb⟩
  rw [ex8.1]
  exact ⟨rfl, hb, H.next hb⟩
theorem hd_not (w : World) : Calls Try.prog 20 #[.agg #[.int .i64 (-1), .int .i64 0, .int .i64 0, .int .i64 0, .slice none 0 0]] w fun e w' => e = .returned (.bool false) ∧ Below w.heap.size w w' := by
  refine (valid_try ⟨-1, 0, 0, 0, []⟩ none 0 0 w.heap.size w ⟨rfl, Reads.none_⟩ (Nat.le_refl _) (by omega)).mono ?_
  rintro e w' ⟨rfl, hb⟩
  rw [ex8.2]
  exact ⟨rfl, hb⟩

set_option maxHeartbeats 4000000 in
set_option maxRecDepth 100000 in
theorem head_any (w : World) : Calls Try.prog 10 #[] w fun e w' => e = .returned (.bool true) ∧ Below w.heap.size w w' := by
  go_enter Try.func10, Try.ntmps10
  go_wp2_with (first
    | (go_at_call 24; refine (sample_any _).mono ?_; rintro e w0 ⟨v, rfl, ⟨A, rfl, hn⟩, hb⟩; have HB := hide hb.size; have HC := hide hb; have HS := hide (HeadS.start hn); clear hn hb; unfold wval sW))
  refine (hd_dist HS.out ⟨#[97, 110, 110, 97]⟩ ⟨#[101, 110, 110, 97]⟩ 1 (by decide) (by decide) ex1).mono ?_
  rintro e w1 ⟨rfl, hs⟩
  have HT := hide hs; clear HS hs
  obtain ⟨d0, d1, d2, d3, d4⟩ := HT.out.facts
  go_wp2_with fail
  refine (hd_dist HT.out ⟨#[97, 110, 110, 97]⟩ ⟨#[111, 110, 110, 97]⟩ 3 (by decide) (by decide) ex2).mono ?_
  rintro e w2 ⟨rfl, hs⟩
  have HS := hide hs; clear HT hs d0 d1 d2 d3 d4
  obtain ⟨d0, d1, d2, d3, d4⟩ := HS.out.facts
  go_wp2_with fail
  refine (hd_best HS.out ⟨#[97, 98]⟩ ⟨#[98, 97]⟩ 1 [5] (by decide) (by decide) ex3).mono ?_
  rintro e w3 ⟨v, rfl, ⟨A1, c1, rfl, hi⟩, hb, hs⟩
  have HT := hide hs; have HI : Hid (Keep w3 A1 1 [5]) := hi; clear HS hs hi hb d0 d1 d2 d3 d4
  obtain ⟨d0, d1, d2, d3, d4⟩ := HT.out.facts
  simp only [List.length_cons, List.length_nil, Nat.zero_add]
  go_wp2_with fail
  refine (hd_best HT.out ⟨#[97, 98, 99]⟩ ⟨#[97, 99]⟩ 2 [1, 4, 1] (by decide) (by decide) ex4).mono ?_
  rintro e w4 ⟨v, rfl, ⟨A2, c2, rfl, hi⟩, hb, hs⟩
  have HS := hide hs; have HJ : Hid (Keep w4 A2 3 [1, 4, 1]) := hi; have HI' := hide (HI.out.next hb); clear HI; have HI := HI'; clear HT HI' hs hi hb d0 d1 d2 d3 d4
  obtain ⟨d0, d1, d2, d3, d4⟩ := HS.out.facts
  simp only [List.length_cons, List.length_nil, Nat.zero_add]
  go_wp2_with fail
  refine (hd_ahead HS.out ⟨#[97, 110, 110, 97]⟩ ⟨#[101, 110]⟩ 1 (by decide) (by decide) ex5).mono ?_
  rintro e w5 ⟨rfl, hb, hs⟩
  have HT := hide hs; have HI' := hide (HI.out.next hb); have HJ' := hide (HJ.out.next hb); clear HI HJ; have HI := HI'; have HJ := HJ'; clear HS HI' HJ' hs hb d0 d1 d2 d3 d4
  obtain ⟨d0, d1, d2, d3, d4⟩ := HT.out.facts
  go_wp2_with fail
  refine (hd_ahead HT.out ⟨#[97, 110, 110, 97]⟩ ⟨#[110]⟩ 1 (by decide) (by decide) ex6).mono ?_
  rintro e w6 ⟨rfl, hb, hs⟩
  have HS := hide hs; have HI' := hide (HI.out.next hb); have HJ' := hide (HJ.out.next hb); clear HI HJ; have HI := HI'; have HJ := HJ'; clear HT HI' HJ' hs hb d0 d1 d2 d3 d4
  obtain ⟨d0, d1, d2, d3, d4⟩ := HS.out.facts
  go_wp2_with fail
  refine (hd_check HS.out _ rfl).mono ?_
  rintro e w7 ⟨rfl, hb, hs⟩
  have HT := hide hs; have HI' := hide (HI.out.next hb); have HJ' := hide (HJ.out.next hb); clear HI HJ; have HI := HI'; have HJ := HJ'; clear HS HI' HJ' hs hb d0 d1 d2 d3 d4
  go_wp2_with fail
  refine (hd_ints1 HI.out _ c1 rfl).mono ?_
  rintro e w8 ⟨rfl, hb⟩
  have HS := hide (HT.out.next hb); have HJ' := hide (HJ.out.next hb); clear HI HJ; have HJ := HJ'; clear HT HJ' hb
  go_wp2_with fail
  refine (hd_ints3 HJ.out _ c2 rfl).mono ?_
  rintro e w9 ⟨rfl, hb⟩
  have HT := hide (HS.out.next hb); clear HJ HS hb
  obtain ⟨d0, d1, d2, d3, d4⟩ := HT.out.facts
  go_wp2_with fail
  refine (hd_valid HT.out).mono ?_
  rintro e w10 ⟨rfl, hb, hs⟩
  have HS := hide hs; clear HT hb hs d0 d1 d2 d3 d4
  go_wp2_with fail
  refine (hd_not _).mono ?_
  rintro e w11 ⟨rfl, hb⟩
  have HT := hide (HS.out.next hb); clear HS hb
  go_wp2
  go_ret
  exact ⟨rfl, HC.out.trans (HT.out.box.bel.mono HB.out)⟩
end Go.Proofs.Ytnpdhbagfkilkaa
