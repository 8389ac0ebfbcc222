/- Walks: lists of ints compared; the least of some numbers. -/
import Derived.Test.YtnpdhbagfkilkaaW1
set_option linter.unusedVariables false
set_option linter.unusedSimpArgs false
namespace Go.Proofs.Ytnpdhbagfkilkaa
open Go.RowKit

/-- the slice value '.slice A n c' holds just the integers l, below block B -/
def Ints (w : World) (B : Nat) (A : Option Addr) (n : Nat) (l : List Int) : Prop := Reads w B 1 A n (l.map (Value.int .i64))
theorem Ints.len {w : World} {B n : Nat} {A : Option Addr} {l : List Int} (h : Ints w B A n l) : l.length = n := by
  have := h.1; simpa using this
theorem Ints.at_ {w : World} {B n k : Nat} {A : Option Addr} {l : List Int} (h : Ints w B A n l) (hk : k < n) :
    ∃ ad, A = some ad ∧ ad.block < B ∧ w.cell? (ad.add k) = some (.int .i64 (l[k]?.getD 0)) := by
  obtain ⟨ad, e, hb, hc⟩ := Reads.at_ h hk
  obtain ⟨u, hu, hcell⟩ := hc 0 (by omega)
  refine ⟨ad, e, hb, ?_⟩
  have hl : k < l.length := by rw [h.len]; exact hk
  simp only [Nat.mul_one, Nat.add_zero, List.getElem?_map, List.getElem?_eq_getElem hl, Option.map_some] at hu
  simp only [Nat.mul_one] at hcell
  have e0 : (ad.add k).add 0 = ad.add k := by simp [Addr.add]
  rw [e0] at hcell
  rw [hcell, ← Option.some.inj hu, List.getElem?_eq_getElem hl]; rfl
theorem Ints.below {w w' : World} {B C n : Nat} {A : Option Addr} {l : List Int} (h : Ints w B A n l) (hb : Below C w w') (hB : B ≤ C) : Ints w' B A n l := Reads.below h hb hB
theorem Ints.more {w : World} {B C n : Nat} {A : Option Addr} {l : List Int} (h : Ints w B A n l) (hB : B ≤ C) : Ints w C A n l := Reads.more h hB

def takeEq (a b : List Int) (k : Nat) : Prop := a.take k = b.take k
theorem takeEq_succ {a b : List Int} {k : Nat} (h : takeEq a b k) (ha : k < a.length) (hb : k < b.length) (he : a[k]?.getD 0 = b[k]?.getD 0) : takeEq a b (k + 1) := by
  unfold takeEq at h ⊢
  rw [List.take_succ_eq_append_getElem ha, List.take_succ_eq_append_getElem hb, h]
  rw [List.getElem?_eq_getElem ha, List.getElem?_eq_getElem hb] at he
  simp at he
  rw [he]

set_option maxHeartbeats 400000 in
theorem ints_any (A B : Option Addr) (n m c d : Nat) (xs ys : List Int) (X : Nat) (w : World) (ha : Ints w X A n xs) (hb : Ints w X B m ys) (hn : n ≤ 140737488355328) (hm : m ≤ 140737488355328) :
    Calls Try.prog 22 #[.slice A n c, .slice B m d] w fun e w' => e = .returned (.bool (decide (xs = ys))) ∧ ∃ k, w' = w.drewN k := by
  have la := hide ha.len
  have lb := hide hb.len
  have HA := hide ha
  have HB := hide hb
  clear ha hb
  by_cases hnm : n = m
  · subst hnm
    go_enter Try.func22, Try.ntmps22
    go_wp2
    go_loopw [5] (fun i wr => ∃ k : Nat, k ≤ n ∧ i = .int .i64 k ∧ takeEq xs ys k ∧ ∃ q, wr = w.drewN q) (fun i _ => n - (intOf i).toNat)
    case atStart => exact ⟨0, Nat.zero_le _, rfl, by simp [takeEq], 0, rfl⟩
    case round =>
      obtain ⟨k, hk, rfl, heq, q, rfl⟩ := hrel
      by_cases hlt : k < n
      · obtain ⟨ad, rfl, _, hca⟩ := HA.out.at_ hlt
        obtain ⟨bd, rfl, _, hcb⟩ := HB.out.at_ hlt
        by_cases hxy : xs[k]?.getD 0 = ys[k]?.getD 0
        · have hb0 : ((xs[k]?.getD 0) != (ys[k]?.getD 0)) = false := by simp [hxy]
          have HX := hide hxy
          have Heq := hide heq
          clear hxy heq
          go_wp2
          go_quiet (fail)
          go_wp2
          go_roundw
          case rel => exact ⟨k + 1, by omega, by go_num, takeEq_succ Heq.out (by rw [la.out]; exact hlt) (by rw [lb.out]; exact hlt) HX.out, by first | exact ⟨_, rfl⟩ | exact ⟨_, World.drewN_drewN _ _ _⟩⟩
          case measure => simp [intOf]; omega
        · have hb0 : ((xs[k]?.getD 0) != (ys[k]?.getD 0)) = true := by simp [hxy]
          go_wp2
          go_quiet (fail)
          go_wp2
          go_ret
          exact ⟨ret_bool (by simp; intro h; apply hxy; rw [h]), by first | exact ⟨_, rfl⟩ | exact ⟨_, World.drewN_drewN _ _ _⟩⟩
      · obtain rfl : k = n := by omega
        go_wp2
        go_ret
        exact ⟨ret_bool (by simp; have h := heq; unfold takeEq at h; rwa [List.take_of_length_le (by rw [la.out]; omega), List.take_of_length_le (by rw [lb.out]; omega)] at h), q, rfl⟩
  · have h1 : ((n : Int) != (m : Int)) = true := by simp; omega
    go_enter Try.func22, Try.ntmps22
    go_wp2
    go_ret
    exact ⟨ret_bool (by simp; intro h; apply hnm; rw [← la.out, ← lb.out, h]), 0, rfl⟩
end Go.Proofs.Ytnpdhbagfkilkaa
