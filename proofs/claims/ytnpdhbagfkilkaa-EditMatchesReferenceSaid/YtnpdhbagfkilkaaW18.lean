/- Walks: what all the laws share; EditLeast. -/
import Derived.Test.YtnpdhbagfkilkaaW16
import Derived.Test.YtnpdhbagfkilkaaW17
import Derived.Test.YtnpdhbagfkilkaaPlain12
set_option linter.unusedVariables false
set_option linter.unusedSimpArgs false
namespace Go.Proofs.Ytnpdhbagfkilkaa
open Go.RowKit

/-- what a law keeps: the weights' box and the near list; w: the world at the call -/
structure LawS (w wc : World) (W : Wt) (A : Option Addr) (n c : Nat) : Prop where
  box : Box wc w W A n c
  near : Near wc w.heap.size A n W.near
section
variable {w wc w' : World} {W : Wt} {A : Option Addr} {n c : Nat}
theorem LawS.start (h : Near w w.heap.size A n W.near) : LawS w (w.alloc (.cells #[.int .i64 W.ins, .int .i64 W.del, .int .i64 W.chg, .int .i64 W.swp, .slice A n c] 24)) W A n c :=
  ⟨Box.start w W A n c, h.below ((Below.refl _ _).alloc (Nat.le_refl _) _) (Nat.le_refl _)⟩
theorem LawS.next (h : LawS w wc W A n c) (hb : Below wc.heap.size wc w') : LawS w w' W A n c := ⟨h.box.next hb, h.near.below hb h.box.bel.size⟩
theorem LawS.alloc (h : LawS w wc W A n c) (o : Obj) : LawS w (wc.alloc o) W A n c := h.next ((Below.refl _ _).alloc (Nat.le_refl _) _)
theorem LawS.drewN (h : LawS w wc W A n c) (k : Nat) : LawS w (wc.drewN k) W A n c := h.next (below_drewN (Below.refl _ _) k)
theorem LawS.facts (h : LawS w wc W A n c) : wc.cell? ⟨w.heap.size, 0, none⟩ = some (.int .i64 W.ins) ∧ wc.cell? ⟨w.heap.size, 1, none⟩ = some (.int .i64 W.del) ∧ wc.cell? ⟨w.heap.size, 2, none⟩ = some (.int .i64 W.chg) ∧ wc.cell? ⟨w.heap.size, 3, none⟩ = some (.int .i64 W.swp) ∧ wc.cell? ⟨w.heap.size, 4, none⟩ = some (.slice A n c) := h.box.facts
theorem LawS.bel (h : LawS w wc W A n c) : Below w.heap.size w wc := h.box.bel
theorem lw_head (h : LawS w wc W A n c) : Calls Try.prog 10 #[] wc fun e w' => e = .returned (.bool true) ∧ LawS w w' W A n c :=
  (head_any wc).mono fun _ _ ⟨h1, h2⟩ => ⟨h1, h.next h2⟩
theorem strs_cells (W : World) (zs : List ByteArray) (b : Nat) (hb : b = W.heap.size) : ∀ j, j < zs.length → (W.alloc (.cells (zs.map Value.string).toArray 9)).cell? ⟨b, j, none⟩ = some (.string (zs.getD j ⟨#[]⟩)) := by
  subst hb
  intro j hj
  rw [(Blk.new W 9 (zs.map Value.string).toArray).cell]
  simp [hj, List.getD_eq_getElem?_getD]
theorem lw_few (h : LawS w wc W A n c) (hn : n ≤ 140737488355328) (zs : List ByteArray) (b k : Nat) (hb : b = wc.heap.size) (hk : zs.length = k) (hk2 : k ≤ 1000) (hz : ∀ z ∈ zs, z.size ≤ maxLen) :
    Calls Try.prog 11 #[wval W A n c, .slice (some ⟨b, 0, none⟩) k k] (wc.alloc (.cells (zs.map Value.string).toArray 9)) fun e w' => e = .returned (.bool (fewB zs n)) ∧ LawS w w' W A n c :=
  (few_any W A n c b k zs _ hn hk hk2 hz (by subst hb; simp) (by subst hk; exact strs_cells wc zs b hb)).mono fun _ _ ⟨h1, h2⟩ => ⟨h1, (h.alloc _).next h2⟩
theorem lw_few2 (h : LawS w wc W A n c) (hn : n ≤ 140737488355328) (x y : ByteArray) (hx : x.size ≤ maxLen) (hy : y.size ≤ maxLen) (b : Nat) (hb : b = wc.heap.size) :
    Calls Try.prog 11 #[wval W A n c, .slice (some ⟨b, 0, none⟩) 2 2] (wc.alloc (.cells #[.string x, .string y] 9)) fun e w' => e = .returned (.bool (fewB [x, y] n)) ∧ LawS w w' W A n c :=
  lw_few h hn [x, y] b 2 hb rfl (by omega) (by simp [hx, hy])
theorem lw_few3 (h : LawS w wc W A n c) (hn : n ≤ 140737488355328) (x y z : ByteArray) (hx : x.size ≤ maxLen) (hy : y.size ≤ maxLen) (hz : z.size ≤ maxLen) (b : Nat) (hb : b = wc.heap.size) :
    Calls Try.prog 11 #[wval W A n c, .slice (some ⟨b, 0, none⟩) 3 3] (wc.alloc (.cells #[.string x, .string y, .string z] 9)) fun e w' => e = .returned (.bool (fewB [x, y, z] n)) ∧ LawS w w' W A n c :=
  lw_few h hn [x, y, z] b 3 hb rfl (by omega) (by simp [hx, hy, hz])
theorem lw_few4 (h : LawS w wc W A n c) (hn : n ≤ 140737488355328) (x y z u : ByteArray) (hx : x.size ≤ maxLen) (hy : y.size ≤ maxLen) (hz : z.size ≤ maxLen) (hu : u.size ≤ maxLen) (b : Nat) (hb : b = wc.heap.size) :
    Calls Try.prog 11 #[wval W A n c, .slice (some ⟨b, 0, none⟩) 4 4] (wc.alloc (.cells #[.string x, .string y, .string z, .string u] 9)) fun e w' => e = .returned (.bool (fewB [x, y, z, u] n)) ∧ LawS w w' W A n c :=
  lw_few h hn [x, y, z, u] b 4 hb rfl (by omega) (by simp [hx, hy, hz, hu])
theorem lw_dist (h : LawS w wc W A n c) (hn : n ≤ 140737488355328) (x y : ByteArray) (hx : x.size ≤ maxLen) (hy : y.size ≤ maxLen) :
    Calls Try.prog 12 #[wval W A n c, .string x, .string y] wc fun e w' => e = .returned (.tuple #[.int .i64 (dist W x.data.toList y.data.toList), .int .i64 (errn (ok3 W x.data.toList y.data.toList))]) ∧ Below wc.heap.size wc w' ∧ LawS w w' W A n c :=
  (distance_any W A n c w.heap.size x y wc h.near h.bel.size hn hx hy).mono fun _ _ ⟨h1, h2⟩ => ⟨h1, h2, h.next h2⟩
theorem lw_best (h : LawS w wc W A n c) (hn : n ≤ 140737488355328) (x y : ByteArray) (hx : x.size ≤ maxLen) (hy : y.size ≤ maxLen) :
    Calls Try.prog 14 #[wval W A n c, .string x, .string y] wc fun e w' => ∃ v, e = .returned (.tuple #[v, .int .i64 (dist W x.data.toList y.data.toList), .int .i64 (errn (ok3 W x.data.toList y.data.toList))]) ∧ IntsV w' v (bestL W x.data.toList y.data.toList) ∧ Below wc.heap.size wc w' ∧ LawS w w' W A n c :=
  (best_any W A n c w.heap.size x y wc h.near h.bel.size hn hx hy).mono fun _ _ ⟨v, h1, h2, h3⟩ => ⟨v, h1, h2, h3, h.next h3⟩
theorem lw_ahead (h : LawS w wc W A n c) (hn : n ≤ 140737488355328) (x y : ByteArray) (hx : x.size ≤ maxLen) (hy : y.size ≤ maxLen) :
    Calls Try.prog 16 #[wval W A n c, .string x, .string y] wc fun e w' => e = .returned (.tuple #[.int .i64 (ahead W x.data.toList y.data.toList), .int .i64 (errn (ok3 W x.data.toList y.data.toList))]) ∧ Below wc.heap.size wc w' ∧ LawS w w' W A n c :=
  (ahead_any W A n c w.heap.size x y wc h.near h.bel.size hn hx hy).mono fun _ _ ⟨h1, h2⟩ => ⟨h1, h2, h.next h2⟩
theorem lw_check (h : LawS w wc W A n c) (hn : n ≤ 140737488355328) (x y : ByteArray) (hx : x.size ≤ maxLen) (hy : y.size ≤ maxLen) {E : Option Addr} {ne : Nat} (ce : Nat) {l : List Int} (hE : Keep wc E ne l) (hne : ne ≤ 140737488355328) :
    Calls Try.prog 18 #[wval W A n c, .string x, .string y, .slice E ne ce] wc fun e w' => e = .returned (.tuple #[.int .i64 ((Wt.check W x.data.toList y.data.toList l).getD 0), .bool (Wt.check W x.data.toList y.data.toList l).isSome]) ∧ Below wc.heap.size wc w' ∧ LawS w w' W A n c :=
  (check_any W A n c wc.heap.size x y E ne ce l wc (h.near.more h.bel.size) (Nat.le_refl _) hn hx hy hE hne).mono fun _ _ ⟨h1, h2⟩ => ⟨h1, h2, h.next h2⟩
theorem lw_valid (h : LawS w wc W A n c) (hn : n ≤ 140737488355328) : Calls Try.prog 20 #[wval W A n c] wc fun e w' => e = .returned (.bool W.valid) ∧ Below wc.heap.size wc w' ∧ LawS w w' W A n c :=
  (valid_try W A n c w.heap.size wc h.near h.bel.size hn).mono fun _ _ ⟨h1, h2⟩ => ⟨h1, h2, h.next h2⟩
end
theorem bestL_len {W : Wt} {x y : List UInt8} : (bestL W x y).length ≤ 240 := by
  unfold bestL
  by_cases h : ok3 W x y = true
  · rw [if_pos h]
    obtain ⟨h1, h2, h3⟩ := ok3_split h
    have : ∀ n i j, (Wt.bestF W x y n i j).length ≤ n := by
      intro n
      induction n with
      | zero => intro i j; simp [Wt.bestF]
      | succ n ih => intro i j; unfold Wt.bestF; split; · simp; exact ih _ _
                     · simp
    unfold Wt.G
    have := this (Wt.rem x y 0 0) 0 0
    have : Wt.rem x y 0 0 ≤ 240 := by unfold Wt.rem; omega
    omega
  · simp [h]
theorem best_nil {W : Wt} {x y : List UInt8} (h : ok3 W x y = false) : bestL W x y = [] ∧ dist W x y = 0 ∧ errn (ok3 W x y) = 1 := by simp [bestL, dist, errn, h]
theorem errn_t {W : Wt} {x y : List UInt8} (h : ok3 W x y = true) : errn (ok3 W x y) = 0 := by simp [errn, h]

set_option maxHeartbeats 4000000 in
set_option maxRecDepth 100000 in
theorem least_law (W : Wt) (A : Option Addr) (n c : Nat) (x y : ByteArray) (E : Option Addr) (ne ce : Nat) (l : List Int) (w : World) (hN : Near w w.heap.size A n W.near) (hn : n ≤ 140737488355328) (hx : x.size ≤ maxLen) (hy : y.size ≤ maxLen)
    (hE : Ints w w.heap.size E ne l) (hne : ne ≤ 140737488355328) :
    Calls Try.prog 4 #[wval W A n c, .string x, .string y, .slice E ne ce] w fun e w' => e = .returned (.bool true) ∧ Below w.heap.size w w' := by
  have H0 := hide (LawS.start (c := c) hN)
  have HE0 : Hid (Keep w E ne l) := hE
  clear hN hE
  cases hf : fewB [x, y] n
  · go_enter Try.func4, Try.ntmps4
    unfold wval
    go_wp2_with fail
    refine (lw_head H0.out).mono ?_
    rintro e w1 ⟨rfl, hs⟩
    have H1 := hide hs; clear hs H0
    obtain ⟨d0, d1, d2, d3, d4⟩ := H1.out.facts
    go_wp2_with fail
    refine (lw_few2 H1.out hn x y hx hy _ rfl).mono ?_
    rintro e w2 ⟨rfl, hs⟩
    have H2 := hide hs; clear hs H1 d0 d1 d2 d3 d4
    rw [hf]
    go_wp2_with fail
    go_ret
    exact ⟨rfl, H2.out.bel⟩
  by_cases h100 : 100 < ne
  · go_enter Try.func4, Try.ntmps4
    unfold wval
    go_wp2_with fail
    refine (lw_head H0.out).mono ?_
    rintro e w1 ⟨rfl, hs⟩
    have H1 := hide hs; clear hs H0
    obtain ⟨d0, d1, d2, d3, d4⟩ := H1.out.facts
    go_wp2_with fail
    refine (lw_few2 H1.out hn x y hx hy _ rfl).mono ?_
    rintro e w2 ⟨rfl, hs⟩
    have H2 := hide hs; clear hs H1 d0 d1 d2 d3 d4
    rw [hf]
    go_wp2_with fail
    go_ret
    exact ⟨rfl, H2.out.bel⟩
  cases hok : ok3 W x.data.toList y.data.toList
  · obtain ⟨hb1, hb2, hb3⟩ := best_nil hok
    have B1 := hide hb1; have B2 := hide hb2; have B3 := hide hb3; clear hb1 hb2 hb3
    go_enter Try.func4, Try.ntmps4
    unfold wval
    go_wp2_with fail
    refine (lw_head H0.out).mono ?_
    rintro e w1 ⟨rfl, hs⟩
    have H1 := hide hs; clear hs H0
    obtain ⟨d0, d1, d2, d3, d4⟩ := H1.out.facts
    go_wp2_with fail
    refine (lw_few2 H1.out hn x y hx hy _ rfl).mono ?_
    rintro e w2 ⟨rfl, hs⟩
    have H2 := hide hs; clear hs H1 d0 d1 d2 d3 d4
    rw [hf]
    obtain ⟨d0, d1, d2, d3, d4⟩ := H2.out.facts
    go_wp2_with fail
    refine (lw_best H2.out hn x y hx hy).mono ?_
    rintro e w3 ⟨v, rfl, hv, _, hs⟩
    rw [B1.out] at hv
    obtain ⟨V, cv, rfl, _⟩ := hv
    have H3 := hide hs; clear hs H2 d0 d1 d2 d3 d4
    rw [B2.out, B3.out, List.length_nil]
    obtain ⟨d0, d1, d2, d3, d4⟩ := H3.out.facts
    go_wp2_with fail
    refine (lw_dist H3.out hn x y hx hy).mono ?_
    rintro e w4 ⟨rfl, _, hs⟩
    have H4 := hide hs; clear hs H3 d0 d1 d2 d3 d4
    rw [B2.out, B3.out]
    go_wp2_with fail
    go_ret
    exact ⟨rfl, H4.out.bel⟩
  obtain ⟨L, HL⟩ : ∃ L, Hid (bestL W x.data.toList y.data.toList = L) := ⟨_, rfl⟩
  obtain ⟨D, HD⟩ : ∃ D, Hid (dist W x.data.toList y.data.toList = D) := ⟨_, rfl⟩
  have B1 : Hid (Wt.check W x.data.toList y.data.toList L = some D) := by
    show _ = _
    rw [← HL.out, ← HD.out]; exact best_check hok
  have B2 : Hid (∀ m, Wt.check W x.data.toList y.data.toList l = some m → D ≤ m ∧ (m = D → beforeL l L = false)) := by
    show ∀ m, _
    rw [← HL.out, ← HD.out]; exact fun m => @check_least W x.data.toList y.data.toList hok l m
  have B3 := hide (errn_t hok)
  have B4 : L.length ≤ 240 := by rw [← HL.out]; exact bestL_len
  have hcks : (∃ C, Hid (Wt.check W x.data.toList y.data.toList l = C) ∧ C = none) ∨ (∃ C m, Hid (Wt.check W x.data.toList y.data.toList l = C) ∧ C = some m ∧ D < m) ∨ (∃ C, Hid (Wt.check W x.data.toList y.data.toList l = C) ∧ C = some D ∧ beforeL l L = false) := by
    cases hc : Wt.check W x.data.toList y.data.toList l with
    | none => exact .inl ⟨none, rfl, rfl⟩
    | some m =>
      obtain ⟨q1, q2⟩ := B2.out m hc
      by_cases hm : m = D
      · exact .inr (.inr ⟨some D, by rw [← hm]; rfl, rfl, q2 hm⟩)
      · exact .inr (.inl ⟨some m, m, rfl, rfl, by omega⟩)
  clear B2
  go_enter Try.func4, Try.ntmps4
  unfold wval
  go_wp2_with fail
  refine (lw_head H0.out).mono ?_
  rintro e w1 ⟨rfl, hs⟩
  have H1 := hide hs; clear hs H0
  obtain ⟨d0, d1, d2, d3, d4⟩ := H1.out.facts
  go_wp2_with fail
  refine (lw_few2 H1.out hn x y hx hy _ rfl).mono ?_
  rintro e w2 ⟨rfl, hs⟩
  have H2 := hide hs; clear hs H1 d0 d1 d2 d3 d4
  rw [hf]
  obtain ⟨d0, d1, d2, d3, d4⟩ := H2.out.facts
  go_wp2_with fail
  refine (lw_best H2.out hn x y hx hy).mono ?_
  rintro e w3 ⟨v, rfl, hv, _, hs⟩
  rw [HL.out] at hv
  obtain ⟨V, cv, rfl, hv⟩ := hv
  have HK3 : Hid (Keep w3 V L.length L) := hv
  have H3 := hide hs; clear hs hv H2 d0 d1 d2 d3 d4
  rw [HD.out, B3.out]
  obtain ⟨d0, d1, d2, d3, d4⟩ := H3.out.facts
  go_wp2_with fail
  refine (lw_dist H3.out hn x y hx hy).mono ?_
  rintro e w4 ⟨rfl, hb, hs⟩
  have HK4 := hide (HK3.out.next hb)
  have H4 := hide hs; clear hs hb H3 HK3 d0 d1 d2 d3 d4
  rw [HD.out, B3.out]
  obtain ⟨d0, d1, d2, d3, d4⟩ := H4.out.facts
  go_wp2_with fail
  refine (lw_check H4.out hn x y hx hy cv HK4.out (by omega)).mono ?_
  rintro e w5 ⟨rfl, hb, hs⟩
  have HK5 := hide (HK4.out.next hb)
  have H5 := hide hs; clear hs hb H4 HK4 d0 d1 d2 d3 d4
  rw [B1.out, Option.getD_some, Option.isSome_some]
  obtain ⟨d0, d1, d2, d3, d4⟩ := H5.out.facts
  go_wp2_with fail
  refine (lw_check H5.out hn x y hx hy ce (HE0.out.next H5.out.bel) (by omega)).mono ?_
  rintro e w6 ⟨rfl, hb, hs⟩
  have HK6 := hide (HK5.out.next hb)
  have H6 := hide hs; clear hs hb H5 HK5 d0 d1 d2 d3 d4
  rcases hcks with ⟨C, HC, rfl⟩ | ⟨C, m, HC, rfl, hm⟩ | ⟨C, HC, rfl, hbf⟩
  · rw [HC.out]
    simp only [Option.getD_none, Option.isSome_none]
    go_wp2_with fail
    go_ret
    exact ⟨rfl, H6.out.bel⟩
  · rw [HC.out, Option.getD_some, Option.isSome_some]
    go_wp2_with fail
    go_ret
    exact ⟨rfl, H6.out.bel⟩
  · rw [HC.out, Option.getD_some, Option.isSome_some]
    have hdd : (D == D) = true := by simp
    go_wp2_with fail
    refine (before_any E V ne L.length ce cv l L _ _ (HE0.out.next H6.out.bel) HK6.out (by omega) (by omega)).mono ?_
    rintro e w7 ⟨rfl, k, rfl⟩
    rw [hbf]
    go_wp2_with fail
    go_ret
    exact ⟨rfl, below_drewN H6.out.bel k⟩
end Go.Proofs.Ytnpdhbagfkilkaa
