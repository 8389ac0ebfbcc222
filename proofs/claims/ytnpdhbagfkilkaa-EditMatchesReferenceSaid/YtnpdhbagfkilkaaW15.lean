/- Walks: Few, few. -/
import Derived.Test.YtnpdhbagfkilkaaW14
set_option linter.unusedVariables false
set_option linter.unusedSimpArgs false
namespace Go.Proofs.Ytnpdhbagfkilkaa
open Go.RowKit

def okSz (s : Nat) : Bool := !((decide (24 < s) && decide (s ≤ 120)) || decide (200 < s))
def fewB (zs : List ByteArray) (n : Nat) : Bool := zs.all (fun z => okSz z.size) && (decide (n ≤ 30) || (decide (200 < n) && decide (n ≤ 300)))
def okUpto (zs : List ByteArray) (i : Nat) : Prop := ∀ j, j < i → okSz (zs.getD j ⟨#[]⟩).size = true
theorem okUpto_succ {zs : List ByteArray} {i : Nat} (h : okUpto zs i) (hi : okSz (zs.getD i ⟨#[]⟩).size = true) : okUpto zs (i + 1) := fun j hj => by
  rcases Nat.lt_or_ge j i with h1 | h1
  · exact h j h1
  · obtain rfl : j = i := by omega
    exact hi
theorem fewB_bad {zs : List ByteArray} {i n : Nat} (hi : i < zs.length) (h : okSz (zs.getD i ⟨#[]⟩).size = false) : fewB zs n = false := by
  unfold fewB
  rw [List.getD_eq_getElem?_getD, List.getElem?_eq_getElem hi] at h
  have : zs.all (fun z => okSz z.size) = false := by rw [List.all_eq_false]; exact ⟨zs[i], List.getElem_mem hi, by simpa using h⟩
  rw [this]; rfl
theorem fewB_good {zs : List ByteArray} {n : Nat} (h : okUpto zs zs.length) : fewB zs n = (decide (n ≤ 30) || (decide (200 < n) && decide (n ≤ 300))) := by
  unfold fewB
  have : zs.all (fun z => okSz z.size) = true := by
    rw [List.all_eq_true]
    intro z hz
    obtain ⟨j, hj, rfl⟩ := List.getElem_of_mem hz
    have := h j hj
    rw [List.getD_eq_getElem?_getD, List.getElem?_eq_getElem hj] at this
    exact this
  rw [this]; rfl
theorem fewB_size {zs : List ByteArray} {n : Nat} (h : fewB zs n = true) : (∀ z ∈ zs, z.size ≤ 200) ∧ n ≤ 300 := by
  simp only [fewB, Bool.and_eq_true, List.all_eq_true, okSz, Bool.or_eq_true, decide_eq_true_eq, Bool.not_eq_true', Bool.or_eq_false_iff, decide_eq_false_iff_not] at h
  exact ⟨fun z hz => by have := (h.1 z hz).2; omega, by omega⟩
def FewI (w wr : World) (W : Wt) (A : Option Addr) (n c k : Nat) (zs : List ByteArray) (t5 : Value) : Prop := ∃ i : Nat, i ≤ k ∧ t5 = .int .i64 i ∧ Box wr w W A n c ∧ okUpto zs i
theorem Box.drewN {wc w : World} {W : Wt} {A : Option Addr} {n c : Nat} (h : Box wc w W A n c) (q : Nat) : Box (wc.drewN q) w W A n c := ⟨h.blk, below_drewN h.bel q⟩
def IsB (e : Ending) : Prop := ∃ r, e = .returned (.bool r)
theorem ret_b {a b : Bool} (h : a = b) : Ending.returned (.bool a) = .returned (.bool b) := by rw [h]
set_option maxHeartbeats 4000000 in
theorem Few_any (W : Wt) (A : Option Addr) (n c b k : Nat) (zs : List ByteArray) (w : World) (hn : n ≤ 140737488355328) (hk : zs.length = k) (hk2 : k ≤ 1000) (hz : ∀ z ∈ zs, z.size ≤ maxLen) (hb : b < w.heap.size) (hc : ∀ i, i < k → w.cell? ⟨b, i, none⟩ = some (.string (zs.getD i ⟨#[]⟩))) :
    Calls Try.prog 25 #[wval W A n c, .slice (some ⟨b, 0, none⟩) k k] w fun e w' => e = .returned (.bool (fewB zs n)) ∧ Below w.heap.size w w' := by
  have HB := hide (Box.start w W A n c)
  have HC := hide hc
  have HZ : Hid (∀ i, i < k → (zs.getD i ⟨#[]⟩).size ≤ maxLen) := by
    show ∀ i, _ → _
    intro i hi
    rw [List.getD_eq_getElem?_getD, List.getElem?_eq_getElem (by omega)]
    exact hz _ (List.getElem_mem _)
  clear hc hz
  go_enter Try.func25, Try.ntmps25
  unfold wval
  go_wp2
  go_loopw [5] (fun t5 wr => FewI w wr W A n c k zs t5) (fun t5 _ => k - (intOf t5).toNat)
  case atStart => exact ⟨0, by omega, rfl, HB.out, fun j hj => by omega⟩
  case round =>
    clear HB
    obtain ⟨i, hi, rfl, hB, hO⟩ := hrel
    have HB := hide hB
    have HO := hide hO
    clear hB hO
    by_cases hlt : i < k
    · have hci : wr.cell? ⟨b, i, none⟩ = some (.string (zs.getD i ⟨#[]⟩)) := by rw [HB.out.bel.cell (by exact hb)]; exact HC.out i hlt
      have hzi := HZ.out i hlt
      have hzm : (zs.getD i ⟨#[]⟩).size ≤ maxLen := hzi
      unfold maxLen at hzm
      clear hzi
      have HS := hide (@okUpto_succ zs i HO.out)
      have HD := hide (@fewB_bad zs i n (by omega))
      generalize zs.getD i ⟨#[]⟩ = z at hci hzm HS HD
      by_cases t1 : 24 < z.size <;> by_cases t2 : z.size ≤ 120 <;> by_cases t3 : 200 < z.size
      all_goals
        first
        | (exfalso; omega)
        | (go_wp2
           go_roundw
           case rel => first | exact ⟨i + 1, by omega, by go_num, HB.out, HS.out (by simp [okSz]; omega)⟩ | ((repeat apply Exists.intro); exact ⟨⟨i + 1, by omega, by go_num, HB.out, HS.out (by simp [okSz]; omega)⟩, rfl⟩)
           case measure => simp [intOf]; try omega)
        | (go_wp2
           go_ret
           exact ⟨ret_b (HD.out (by simp [okSz]; omega)).symm, HB.out.bel⟩)
    · obtain ⟨d0, d1, d2, d3, d4⟩ := HB.out.facts
      have hik : i = k := by omega
      have HG : Hid (fewB zs n = (decide (n ≤ 30) || (decide (200 < n) && decide (n ≤ 300)))) := fewB_good (by rw [hk, ← hik]; exact HO.out)
      clear hik
      by_cases t1 : n ≤ 30 <;> by_cases t2 : 200 < n <;> by_cases t3 : n ≤ 300
      all_goals
        first
        | (exfalso; omega)
        | (go_wp2
           go_ret
           refine ⟨ret_b ?_, by first | exact below_drewN HB.out.bel _ | exact HB.out.bel⟩
           rw [HG.out, Bool.eq_iff_iff]
           simp only [Bool.or_eq_true, Bool.and_eq_true, decide_eq_true_eq, Bool.true_eq, Bool.false_eq, reduceCtorEq, true_iff, iff_true, false_iff, iff_false]
           omega)
set_option maxHeartbeats 400000 in
theorem few_any (W : Wt) (A : Option Addr) (n c b k : Nat) (zs : List ByteArray) (w : World) (hn : n ≤ 140737488355328) (hk : zs.length = k) (hk2 : k ≤ 1000) (hz : ∀ z ∈ zs, z.size ≤ maxLen) (hb : b < w.heap.size) (hc : ∀ i, i < k → w.cell? ⟨b, i, none⟩ = some (.string (zs.getD i ⟨#[]⟩))) :
    Calls Try.prog 11 #[wval W A n c, .slice (some ⟨b, 0, none⟩) k k] w fun e w' => e = .returned (.bool (fewB zs n)) ∧ Below w.heap.size w w' := by
  have HB := hide (Box.start w W A n c)
  have HC := hide hc
  clear hc
  go_enter Try.func11, Try.ntmps11
  unfold wval
  go_wp2_with (go_at_call 25; rw [← wval_eq]; refine (Few_any W A n c b k zs _ hn hk hk2 hz (by exact Nat.lt_of_lt_of_le hb HB.out.bel.size) (by intro i hi; rw [HB.out.bel.cell (by exact hb)]; exact HC.out i hi)).mono ?_; rintro e w1 ⟨rfl, hb1⟩; have HT := hide (HB.out.next hb1); clear hb1)
  go_ret
  exact ⟨rfl, HT.out.bel⟩
end Go.Proofs.Ytnpdhbagfkilkaa
