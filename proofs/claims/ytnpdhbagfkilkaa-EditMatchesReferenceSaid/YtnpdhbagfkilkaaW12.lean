/- Walks: Ahead's closure, least. -/
import Derived.Test.YtnpdhbagfkilkaaW11
import Derived.Test.YtnpdhbagfkilkaaPlain7
set_option linter.unusedVariables false
set_option linter.unusedSimpArgs false
namespace Go.Proofs.Ytnpdhbagfkilkaa
open Go.RowKit

theorem ret_i {k : IntKind} {a b : Int} (h : a = b) : Ending.returned (.int k a) = .returned (.int k b) := by rw [h]

set_option maxHeartbeats 400000 in
theorem at_any (iz jz c v : Int) (i j R T n m Bj : Nat) (cn cm : Nat) (w : World) (hi : iz = i) (hj : jz = j) (hin : i < m) (hjn : j < n)
    (h1 : w.cell? ⟨R, 0, none⟩ = some (.slice (some ⟨T, 0, none⟩) n cn)) (h2 : w.cell? ⟨T, j, none⟩ = some (.slice (some ⟨Bj, 0, none⟩) m cm)) (h3 : w.cell? ⟨Bj, i, none⟩ = some (.int .i64 v))
    (hv : 0 ≤ v ∧ v ≤ 1000000) (hc : -1000 ≤ c ∧ c ≤ 1000) (hs : n ≤ 1000 ∧ m ≤ 1000) :
    Calls Try.prog 33 #[.int .i64 iz, .int .i64 jz, .int .i64 c, .pointer (some ⟨R, 0, none⟩)] w fun e w' => e = .returned (.int .i64 (Wt.atv v c)) ∧ w = w' := by
  subst hi hj
  obtain ⟨v1, v2⟩ := hv
  obtain ⟨c1, c2⟩ := hc
  obtain ⟨s1, s2⟩ := hs
  by_cases hneg : c < 0
  · have HF : Hid (Wt.atv v c = 1099511627776) := by show _ = _; simp [Wt.atv, hneg, Wt.big]
    go_enter Try.func33, Try.ntmps33
    go_wp2
    go_ret
    exact ⟨ret_i HF.out.symm, rfl⟩
  · have HF : Hid (Wt.atv v c = v + c) := by show _ = _; simp [Wt.atv, hneg]
    go_enter Try.func33, Try.ntmps33
    go_wp2
    go_ret
    exact ⟨ret_i HF.out.symm, rfl⟩

set_option maxHeartbeats 400000 in
theorem least_any (b n c : Nat) (zs : List Int) (w : World) (hn : 0 < n) (hz : zs.length = n) (hbig : n ≤ 1000) (hc : ∀ j, j < zs.length → w.cell? ⟨b, 0 + j, none⟩ = some (.int .i64 (zs.getD j 0))) :
    Calls Try.prog 34 #[.slice (some ⟨b, 0, none⟩) n c] w fun e w' => e = .returned (.int .i64 (Lib.minOf zs)) ∧ w = w' := by
  have HC := hide hc
  have HZ := hide hz
  clear hc hz
  go_enter Try.func34, Try.ntmps34
  go_wp2_with (go_at_call 40; refine (Try.slices_Min_int b 0 n c zs w hn (by rw [HZ.out]; exact Nat.le_refl _) (by omega) HC.out).mono ?_; rintro e w1 ⟨rfl, hw⟩; have HW := hide hw; clear hw)
  go_ret
  exact ⟨ret_i (by rw [List.take_of_length_le (by rw [HZ.out]; exact Nat.le_refl _)]), HW.out.symm⟩
end Go.Proofs.Ytnpdhbagfkilkaa
