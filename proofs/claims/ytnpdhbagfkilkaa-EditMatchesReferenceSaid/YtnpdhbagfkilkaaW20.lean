/- Walks: EditTurns. -/
import Derived.Test.YtnpdhbagfkilkaaW18
set_option linter.unusedVariables false
set_option linter.unusedSimpArgs false
namespace Go.Proofs.Ytnpdhbagfkilkaa
open Go.RowKit

theorem errn_f {W : Wt} {x y : List UInt8} (h : ok3 W x y = false) : errn (ok3 W x y) = 1 := by simp [errn, h]
/-- weights that lie in a block of the call's own -/
theorem own_dist {w wc : World} {W V : Wt} {A : Option Addr} {n c : Nat} (h : LawS w wc W A n c) (hv : V.near = W.near) (hn : n ≤ 140737488355328) (x y : ByteArray) (hx : x.size ≤ maxLen) (hy : y.size ≤ maxLen) :
    Calls Try.prog 12 #[wval V A n c, .string x, .string y] wc fun e w' => e = .returned (.tuple #[.int .i64 (dist V x.data.toList y.data.toList), .int .i64 (errn (ok3 V x.data.toList y.data.toList))]) ∧ Below wc.heap.size wc w' ∧ LawS w w' W A n c :=
  (distance_any V A n c w.heap.size x y wc (by rw [hv]; exact h.near) h.bel.size hn hx hy).mono fun _ _ ⟨h1, h2⟩ => ⟨h1, h2, h.next h2⟩

theorem LawS.setFar {w wc : World} {W : Wt} {A : Option Addr} {n c : Nat} (h : LawS w wc W A n c) {p : Addr} (hp : w.heap.size < p.block) (u : Value) : LawS w (wc.setCell p u) W A n c :=
  ⟨⟨h.box.blk.far (by omega) u, h.bel.setCell (by omega) u⟩, h.near.below ((Below.refl w.heap.size wc).setCell (by omega) u) (Nat.le_refl _)⟩

set_option maxHeartbeats 4000000 in
set_option maxRecDepth 100000 in
theorem turns_law (W : Wt) (A : Option Addr) (n c : Nat) (x y : ByteArray) (w : World) (hN : Near w w.heap.size A n W.near) (hn : n ≤ 140737488355328) (hx : x.size ≤ maxLen) (hy : y.size ≤ maxLen) :
    Calls Try.prog 5 #[wval W A n c, .string x, .string y] w fun e w' => e = .returned (.bool true) ∧ Below w.heap.size w w' := by
  have H0 := hide (LawS.start (c := c) hN)
  clear hN
  cases hf : fewB [x, y] n
  · go_enter Try.func5, Try.ntmps5
    unfold wval
    go_wp2_with fail
    refine (lw_head H0.out).mono ?_
    rintro e w1 ⟨rfl, hs⟩
    have H1 := hide hs; clear hs H0
    obtain ⟨d0, d1, d2, d3, d4⟩ := H1.out.facts
    go_wp2_with fail
    refine (lw_few2 H1.out hn x y hx hy _ rfl).mono ?_
    rintro e w2 ⟨rfl, hs⟩
    have H2 := hide hs; clear hs H1 d0 d1 d2 d3 d4
    rw [hf]
    go_wp2_with fail
    go_ret
    exact ⟨rfl, H2.out.bel⟩
  have HBo := hide (back_ok3 W x.data.toList y.data.toList)
  have HBd := hide (back_dist W x.data.toList y.data.toList)
  have HRf := hide (dist_refl W x.data.toList)
  obtain ⟨v, HV⟩ : ∃ v, Hid (errn (ok3 W x.data.toList y.data.toList) = v) := ⟨_, rfl⟩
  obtain ⟨u, HU⟩ : ∃ u, Hid (errn (ok3 W x.data.toList x.data.toList) = u) := ⟨_, rfl⟩
  obtain ⟨D, HD⟩ : ∃ D, Hid (dist W x.data.toList y.data.toList = D) := ⟨_, rfl⟩
  go_enter Try.func5, Try.ntmps5
  unfold wval
  go_wp2_with fail
  refine (lw_head H0.out).mono ?_
  rintro e w1 ⟨rfl, hs⟩
  have H1 := hide hs; clear hs H0
  obtain ⟨d0, d1, d2, d3, d4⟩ := H1.out.facts
  go_wp2_with fail
  refine (lw_few2 H1.out hn x y hx hy _ rfl).mono ?_
  rintro e w2 ⟨rfl, hs⟩
  have H2 := hide hs; clear hs H1 d0 d1 d2 d3 d4
  rw [hf]
  obtain ⟨d0, d1, d2, d3, d4⟩ := H2.out.facts
  go_wp2_with fail
  have HK := hide (Blk.new w2 24 (wCells W A n c))
  have H3 := hide (H2.out.alloc (.cells (wCells W A n c) 24))
  have hbw : w.heap.size < w2.heap.size := H2.out.box.blk.lt
  clear H2 d0 d1 d2 d3 d4
  unfold wCells at HK H3
  generalize w2.heap.size = b at hbw HK ⊢
  generalize w2.alloc _ = w3 at HK H3 ⊢
  obtain ⟨d0, d1, d2, d3, d4⟩ := H3.out.facts
  have k0 : w3.cell? ⟨b, 0, none⟩ = some (.int .i64 W.ins) := HK.out.cell 0
  have k1 : w3.cell? ⟨b, 1, none⟩ = some (.int .i64 W.del) := HK.out.cell 1
  have f0 : w3.frozen? ⟨b, 0, none⟩ = false := HK.out.frozen 0
  have f1 : w3.frozen? ⟨b, 1, none⟩ = false := HK.out.frozen 1
  go_region
  have H4 := hide (((H3.out.setFar (p := ⟨b, 0, none⟩) hbw (.int .i64 W.del)).setFar (p := ⟨b, 1, none⟩) hbw (.int .i64 W.ins)).drewN 1)
  have HK4 : Hid (Blk (((w3.setCell ⟨b, 0, none⟩ (.int .i64 W.del)).setCell ⟨b, 1, none⟩ (.int .i64 W.ins)).drewN 1) b 24 (wCells W.back A n c)) := ((HK.out.set_ 0 (.int .i64 W.del)).set_ 1 (.int .i64 W.ins)).drewN 1
  clear H3 HK d0 d1 d2 d3 d4 k0 k1 f0 f1
  change Hid (LawS w (World.drew _) W A n c) at H4
  change Hid (Blk (World.drew _) b _ _) at HK4
  generalize World.drew _ = w4 at H4 HK4 ⊢
  obtain ⟨d0, d1, d2, d3, d4⟩ := H4.out.facts
  go_wp2_with fail
  refine (lw_dist H4.out hn x y hx hy).mono ?_
  rintro e w5 ⟨rfl, hb, hs⟩
  rw [HV.out, HD.out]
  have H5 := hide hs
  have HK5 := hide (HK4.out.below hb HK4.out.lt)
  clear hs hb H4 HK4 d0 d1 d2 d3 d4
  have k0 : w5.cell? ⟨b, 0, none⟩ = some (.int .i64 W.del) := HK5.out.cell 0
  have k1 : w5.cell? ⟨b, 1, none⟩ = some (.int .i64 W.ins) := HK5.out.cell 1
  have k2 : w5.cell? ⟨b, 2, none⟩ = some (.int .i64 W.chg) := HK5.out.cell 2
  have k3 : w5.cell? ⟨b, 3, none⟩ = some (.int .i64 W.swp) := HK5.out.cell 3
  have k4 : w5.cell? ⟨b, 4, none⟩ = some (.slice A n c) := HK5.out.cell 4
  go_wp2_with fail
  refine (own_dist (V := W.back) H5.out rfl hn y x hy hx).mono ?_
  rintro e w6 ⟨rfl, hb, hs⟩
  have H6 := hide hs
  clear hs hb H5 HK5 k0 k1 k2 k3 k4
  rw [HBd.out, HBo.out, HV.out, HD.out]
  obtain ⟨d0, d1, d2, d3, d4⟩ := H6.out.facts
  go_wp2_with fail
  refine (lw_dist H6.out hn x x hx hx).mono ?_
  rintro e w7 ⟨rfl, hb, hs⟩
  have H7 := hide hs
  clear hs hb H6 d0 d1 d2 d3 d4
  rw [HRf.out, HU.out]
  obtain ⟨d0, d1, d2, d3, d4⟩ := H7.out.facts
  cases hok : ok3 W x.data.toList y.data.toList
  · obtain rfl : v = 1 := by have := HV.out; rw [hok] at this; exact this.symm
    go_wp2_with fail
    go_ret
    exact ⟨rfl, H7.out.bel⟩
  · obtain rfl : v = 0 := by have := HV.out; rw [hok] at this; exact this.symm
    obtain rfl : u = 0 := by have := HU.out; rw [ok3_same hok] at this; exact this.symm
    have hlo := dist_lo W x.data.toList y.data.toList
    have hhi := dist_hi hok
    obtain ⟨v1, v2, v3, _⟩ := Wt.valid_num (ok3_valid hok)
    obtain ⟨_, hxl, hyl⟩ := ok3_split hok
    rw [toList_length, toList_length] at hhi
    rw [toList_length] at hxl hyl
    rw [HD.out] at hlo hhi
    have m1 : 0 ≤ W.del * (x.size : Int) := Int.mul_nonneg v3 (by omega)
    have m2 : 0 ≤ W.ins * (y.size : Int) := Int.mul_nonneg v1 (by omega)
    have m3 : W.del * (x.size : Int) ≤ 1000 * 120 := Int.mul_le_mul (by omega) (by omega) (by omega) (by omega)
    have m4 : W.ins * (y.size : Int) ≤ 1000 * 120 := Int.mul_le_mul (by omega) (by omega) (by omega) (by omega)
    clear hok
    have hdd : (D == D) = true := by simp
    go_wp2_with fail
    go_ret
    exact ⟨rfl, H7.out.bel⟩
end Go.Proofs.Ytnpdhbagfkilkaa
