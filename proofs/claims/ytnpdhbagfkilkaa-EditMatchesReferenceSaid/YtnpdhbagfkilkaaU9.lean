/- Chapter 18: the walk of EditMatchesReference. -/
import Derived.Test.YtnpdhbagfkilkaaUU
import Derived.Test.YtnpdhbagfkilkaaU6
import Derived.Test.YtnpdhbagfkilkaaU8
import Derived.Test.YtnpdhbagfkilkaaW18
import Derived.Test.YtnpdhbagfkilkaaCl2
import Derived.BigQuiet
import Derived.Deep.DeepCutAuto
set_option linter.unusedVariables false
set_option linter.unusedSimpArgs false
namespace Go.Proofs.Ytnpdhbagfkilkaa
open Go.RowKit

section
variable {w wc w' : World} {W : Wt} {A : Option Addr} {n c : Nat}
theorem rw_dist (h : LawS w wc W A n c) (hn : n ≤ 140737488355328) (x y : ByteArray) (hx : x.size ≤ maxLen) (hy : y.size ≤ maxLen) :
    Calls Try.prog 13 #[wval W A n c, .string x, .string y] wc fun e w' => e = .returned (.tuple #[.int .i64 (dist W x.data.toList y.data.toList), .int .i64 (errn (ok3 W x.data.toList y.data.toList))]) ∧ Below wc.heap.size wc w' ∧ LawS w w' W A n c :=
  (rdistance_any W A n c w.heap.size x y wc h.near h.bel.size hn hx hy).mono fun _ _ ⟨h1, h2⟩ => ⟨h1, h2, h.next h2⟩
theorem rw_best (h : LawS w wc W A n c) (hn : n ≤ 140737488355328) (x y : ByteArray) (hx : x.size ≤ maxLen) (hy : y.size ≤ maxLen) :
    Calls Try.prog 15 #[wval W A n c, .string x, .string y] wc fun e w' => ∃ v, e = .returned (.tuple #[v, .int .i64 (dist W x.data.toList y.data.toList), .int .i64 (errn (ok3 W x.data.toList y.data.toList))]) ∧ IntsV w' v (bestL W x.data.toList y.data.toList) ∧ Below wc.heap.size wc w' ∧ LawS w w' W A n c :=
  (rbest_any W A n c w.heap.size x y wc h.near h.bel.size hn hx hy).mono fun _ _ ⟨v, h1, h2, h3⟩ => ⟨v, h1, h2, h3, h.next h3⟩
theorem rw_ahead (h : LawS w wc W A n c) (hn : n ≤ 140737488355328) (x y : ByteArray) (hx : x.size ≤ maxLen) (hy : y.size ≤ maxLen) :
    Calls Try.prog 17 #[wval W A n c, .string x, .string y] wc fun e w' => e = .returned (.tuple #[.int .i64 (ahead W x.data.toList y.data.toList), .int .i64 (errn (ok3 W x.data.toList y.data.toList))]) ∧ Below wc.heap.size wc w' ∧ LawS w w' W A n c :=
  (rahead_any W A n c w.heap.size x y wc h.near h.bel.size hn hx hy).mono fun _ _ ⟨h1, h2⟩ => ⟨h1, h2, h.next h2⟩
theorem rw_check (h : LawS w wc W A n c) (hn : n ≤ 140737488355328) (x y : ByteArray) (hx : x.size ≤ maxLen) (hy : y.size ≤ maxLen) {E : Option Addr} {ne : Nat} (ce : Nat) {l : List Int} (hE : Keep wc E ne l) (hne : ne ≤ 140737488355328) :
    Calls Try.prog 19 #[wval W A n c, .string x, .string y, .slice E ne ce] wc fun e w' => e = .returned (.tuple #[.int .i64 ((Wt.check W x.data.toList y.data.toList l).getD 0), .bool (Wt.check W x.data.toList y.data.toList l).isSome]) ∧ Below wc.heap.size wc w' ∧ LawS w w' W A n c :=
  (rcheck_any W A n c wc.heap.size x y E ne ce l wc (h.near.more h.bel.size) (Nat.le_refl _) hn hx hy hE hne).mono fun _ _ ⟨h1, h2⟩ => ⟨h1, h2, h.next h2⟩
end
set_option maxRecDepth 100000 in
set_option maxHeartbeats 8000000 in
theorem match_law (W : Wt) (A : Option Addr) (n c : Nat) (x y : ByteArray) (E : Option Addr) (ne ce : Nat) (l : List Int) (w : World) (hN : Near w w.heap.size A n W.near) (hn : n ≤ 140737488355328) (hx : x.size ≤ maxLen) (hy : y.size ≤ maxLen)
    (hE : Ints w w.heap.size E ne l) (hne : ne ≤ 140737488355328) :
    Calls Try.prog 3 #[wval W A n c, .string x, .string y, .slice E ne ce] w fun e w' => e = .returned (.bool true) ∧ Below w.heap.size w w' := by
  have H0 := hide (LawS.start (c := c) hN)
  have HE0 : Hid (Keep w E ne l) := hE
  clear hN hE
  cases hf : fewB [x, y] n
  · go_enter Try.func3, Try.ntmps3
    unfold wval
    go_wp2_with fail
    refine (lw_head H0.out).mono ?_
    rintro e w1 ⟨rfl, hs⟩
    have H1 := hide hs; clear hs H0
    obtain ⟨d0, d1, d2, d3, d4⟩ := H1.out.facts
    go_wp2_with fail
    refine (lw_few2 H1.out hn x y hx hy _ rfl).mono ?_
    rintro e w2 ⟨rfl, hs⟩
    have H2 := hide hs; clear hs H1 d0 d1 d2 d3 d4
    rw [hf]
    go_wp2_with fail
    go_ret
    exact ⟨rfl, H2.out.bel⟩
  by_cases h100 : 100 < ne
  · have e100 : decide ((100 : Int) < (ne : Int)) = true := decide_eq_true (by omega)
    have e100' : decide (100 < ne) = true := decide_eq_true h100
    go_enter Try.func3, Try.ntmps3
    unfold wval
    go_wp2_with fail
    refine (lw_head H0.out).mono ?_
    rintro e w1 ⟨rfl, hs⟩
    have H1 := hide hs; clear hs H0
    obtain ⟨d0, d1, d2, d3, d4⟩ := H1.out.facts
    go_wp2_with fail
    refine (lw_few2 H1.out hn x y hx hy _ rfl).mono ?_
    rintro e w2 ⟨rfl, hs⟩
    have H2 := hide hs; clear hs H1 d0 d1 d2 d3 d4
    rw [hf]
    go_wp2_with fail
    go_ret
    exact ⟨rfl, H2.out.bel⟩
  have e100 : decide ((100 : Int) < (ne : Int)) = false := decide_eq_false (by omega)
  have e100' : decide (100 < ne) = false := decide_eq_false h100
  obtain ⟨v1, hv1⟩ : ∃ v, errn (ok3 W x.data.toList y.data.toList) = v := ⟨_, rfl⟩
  obtain ⟨D1, hD1⟩ : ∃ v, dist W x.data.toList y.data.toList = v := ⟨_, rfl⟩
  obtain ⟨A1, hA1⟩ : ∃ v, ahead W x.data.toList y.data.toList = v := ⟨_, rfl⟩
  obtain ⟨C1, hC1⟩ : ∃ v, (Wt.check W x.data.toList y.data.toList l).getD 0 = v := ⟨_, rfl⟩
  obtain ⟨C2, hC2⟩ : ∃ v, (Wt.check W x.data.toList y.data.toList l).isSome = v := ⟨_, rfl⟩
  obtain ⟨BL, hBL⟩ : ∃ v, bestL W x.data.toList y.data.toList = v := ⟨_, rfl⟩
  obtain ⟨VV, hVV⟩ : ∃ v, W.valid = v := ⟨_, rfl⟩
  have hbl : BL.length ≤ 240 := by rw [← hBL]; exact bestL_len
  have Q1 := hide hv1; have Q2 := hide hD1; have Q3 := hide hA1; have Q4 := hide hC1; have Q5 := hide hC2; have Q6 := hide hBL; have Q7 := hide hVV
  clear hv1 hD1 hA1 hC1 hC2 hBL hVV
  go_enter Try.func3, Try.ntmps3
  unfold wval
  go_wp2_with fail
  refine (lw_head H0.out).mono ?_
  rintro e w1 ⟨rfl, hs⟩
  have H1 := hide hs; clear hs H0
  obtain ⟨d0, d1, d2, d3, d4⟩ := H1.out.facts
  go_wp2_with fail
  refine (lw_few2 H1.out hn x y hx hy _ rfl).mono ?_
  rintro e w2 ⟨rfl, hs⟩
  have H2 := hide hs; clear hs H1 d0 d1 d2 d3 d4
  rw [hf]
  obtain ⟨d0, d1, d2, d3, d4⟩ := H2.out.facts
  go_wp2_with fail
  refine (lw_dist H2.out hn x y hx hy).mono ?_
  rintro e w3 ⟨rfl, hb, hs⟩
  rw [Q1.out, Q2.out]
  have H3 := hide hs; clear hs hb H2 d0 d1 d2 d3 d4
  obtain ⟨d0, d1, d2, d3, d4⟩ := H3.out.facts
  go_wp2_with fail
  refine (rw_dist H3.out hn x y hx hy).mono ?_
  rintro e w4 ⟨rfl, hb, hs⟩
  rw [Q1.out, Q2.out]
  have H4 := hide hs; clear hs hb H3 d0 d1 d2 d3 d4
  obtain ⟨d0, d1, d2, d3, d4⟩ := H4.out.facts
  go_wp2_with fail
  refine (lw_best H4.out hn x y hx hy).mono ?_
  rintro e w5 ⟨v, rfl, hv, hb, hs⟩
  rw [Q6.out] at hv
  obtain ⟨V1, cv1, rfl, hv⟩ := hv
  have KA5 : Hid (Keep w5 V1 BL.length BL) := hv
  clear hv
  rw [Q1.out, Q2.out]
  have H5 := hide hs; clear hs hb H4 d0 d1 d2 d3 d4
  obtain ⟨d0, d1, d2, d3, d4⟩ := H5.out.facts
  go_wp2_with fail
  refine (rw_best H5.out hn x y hx hy).mono ?_
  rintro e w6 ⟨v, rfl, hv, hb, hs⟩
  have KA6 := hide (KA5.out.next hb)
  rw [Q6.out] at hv
  obtain ⟨V2, cv2, rfl, hv⟩ := hv
  have KB6 : Hid (Keep w6 V2 BL.length BL) := hv
  clear hv
  rw [Q1.out, Q2.out]
  have H6 := hide hs; clear hs hb H5 d0 d1 d2 d3 d4 KA5
  obtain ⟨d0, d1, d2, d3, d4⟩ := H6.out.facts
  go_wp2_with fail
  refine (lw_ahead H6.out hn x y hx hy).mono ?_
  rintro e w7 ⟨rfl, hb, hs⟩
  have KA7 := hide (KA6.out.next hb)
  have KB7 := hide (KB6.out.next hb)
  rw [Q1.out, Q3.out]
  have H7 := hide hs; clear hs hb H6 d0 d1 d2 d3 d4 KA6 KB6
  obtain ⟨d0, d1, d2, d3, d4⟩ := H7.out.facts
  go_wp2_with fail
  refine (rw_ahead H7.out hn x y hx hy).mono ?_
  rintro e w8 ⟨rfl, hb, hs⟩
  have KA8 := hide (KA7.out.next hb)
  have KB8 := hide (KB7.out.next hb)
  rw [Q1.out, Q3.out]
  have H8 := hide hs; clear hs hb H7 d0 d1 d2 d3 d4 KA7 KB7
  obtain ⟨d0, d1, d2, d3, d4⟩ := H8.out.facts
  go_wp2_with fail
  refine (lw_check H8.out hn x y hx hy ce (HE0.out.next H8.out.bel) (by omega)).mono ?_
  rintro e w9 ⟨rfl, hb, hs⟩
  have KA9 := hide (KA8.out.next hb)
  have KB9 := hide (KB8.out.next hb)
  rw [Q4.out, Q5.out]
  have H9 := hide hs; clear hs hb H8 d0 d1 d2 d3 d4 KA8 KB8
  obtain ⟨d0, d1, d2, d3, d4⟩ := H9.out.facts
  go_wp2_with fail
  refine (rw_check H9.out hn x y hx hy ce (HE0.out.next H9.out.bel) (by omega)).mono ?_
  rintro e w10 ⟨rfl, hb, hs⟩
  have KA10 := hide (KA9.out.next hb)
  have KB10 := hide (KB9.out.next hb)
  rw [Q4.out, Q5.out]
  have H10 := hide hs; clear hs hb H9 d0 d1 d2 d3 d4 KA9 KB9
  go_upto_region 12 with fail
  obtain ⟨U, hU, g, u0, rfl, hgu, hgi⟩ := cls w10
  have xs_0 := fun u => (((H10.out.box.blk.to (hgu u)).cell 0).trans (show _ = some (Value.int IntKind.i64 W.ins) from rfl))
  have xs_1 := fun u => (((H10.out.box.blk.to (hgu u)).cell 1).trans (show _ = some (Value.int IntKind.i64 W.del) from rfl))
  have xs_2 := fun u => (((H10.out.box.blk.to (hgu u)).cell 2).trans (show _ = some (Value.int IntKind.i64 W.chg) from rfl))
  have xs_3 := fun u => (((H10.out.box.blk.to (hgu u)).cell 3).trans (show _ = some (Value.int IntKind.i64 W.swp) from rfl))
  have xs_4 := fun u => (((H10.out.box.blk.to (hgu u)).cell 4).trans (show _ = some (Value.slice A n c) from rfl))
  have D1' : ∀ u, Calls Try.prog 20 #[.agg #[.int .i64 W.ins, .int .i64 W.del, .int .i64 W.chg, .int .i64 W.swp, .slice A n c]] (g u) fun e w' => e = .returned (.bool VV) ∧ ∃ u', w' = g u' := fun u => cls_call hgu hgi (fun Wd hb => by
    have h1 := H10.out.next hb
    have := valid_try W A n c w.heap.size Wd h1.near h1.bel.size hn
    rw [Q7.out] at this
    exact this) u
  have D2' : ∀ u, Calls Try.prog 21 #[.agg #[.int .i64 W.ins, .int .i64 W.del, .int .i64 W.chg, .int .i64 W.swp, .slice A n c]] (g u) fun e w' => e = .returned (.bool VV) ∧ ∃ u', w' = g u' := fun u => cls_call hgu hgi (fun Wd hb => by
    have h1 := H10.out.next hb
    have := rvalid8_any W A n c w.heap.size Wd h1.near h1.bel.size hn
    rw [Q7.out] at this
    exact this) u
  have D3' : ∀ u, Calls Try.prog 22 #[.slice V1 BL.length cv1, .slice V2 BL.length cv2] (g u) fun e w' => e = .returned (.bool true) ∧ ∃ u', w' = g u' := fun u => cls_call hgu hgi (fun Wd hb => by
    have h1 := KA10.out.next hb
    have h2 := KB10.out.next hb
    refine (ints_any V1 V2 BL.length BL.length cv1 cv2 BL BL Wd.heap.size Wd h1 h2 (by omega) (by omega)).mono ?_
    rintro e w' ⟨h3, q, h4⟩
    exact ⟨by rw [h3]; simp, h4 ▸ below_drewN (Below.refl _ _) q⟩) u
  have p1 : (VV == VV) = true := by simp
  have p2 : (D1 == D1) = true := by simp
  have p3 : (v1 == v1) = true := by simp
  have p4 : (A1 == A1) = true := by simp
  have p5 : (C1 == C1) = true := by simp
  have p6 : (C2 == C2) = true := by simp
  refine wp_region_class g (by kernel_rfl) (by kernel_rfl) (hgi _ (hgu _).drew) ?_
  repeat (go_big_quiet_step (first | with_reducible exact D1' _ | with_reducible exact D2' _ | with_reducible exact D3' _))
  refine wpQuiet_nil ?_
  intro w11 hw11
  obtain ⟨u, rfl⟩ := hw11
  go_wp2_with fail
  go_ret
  exact ⟨rfl, below_to H10.out.bel (Nat.le_refl _) (hgu u)⟩
end Go.Proofs.Ytnpdhbagfkilkaa
