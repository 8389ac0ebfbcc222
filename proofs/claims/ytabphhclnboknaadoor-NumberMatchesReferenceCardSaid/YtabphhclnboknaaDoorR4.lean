/- Walk of the reference of layer 22: Between (printed by genr4.py). -/
import Derived.Test.YtabphhclnboknaaDoorR3
set_option linter.unusedVariables false
set_option linter.unusedSimpArgs false
namespace Go.Proofs.YtabphhclnboknaaDoor
open Go.RowKit

def letR (l : Nat) : List UInt8 := if l = 0 then [] else [UInt8.ofNat (96 + l)]
theorem letR_fin : ∀ l : Nat, l < 27 → rank (letR l) = (l : Int) ∧ letterB (letR l) = true := by decide +kernel
theorem abc_cut : ∀ m : Nat, m < 26 → (lowers.drop m).take (m + 1 - m) = letR (m + 1) := by decide +kernel
theorem abc_ext (m : Nat) (h : m < 26) : (⟨#[97, 98, 99, 100, 101, 102, 103, 104, 105, 106, 107, 108, 109, 110, 111, 112, 113, 114, 115, 116, 117, 118, 119, 120, 121, 122]⟩ : ByteArray).extract m (m + 1) = bs (letR (m + 1)) := by
  have := bs_cut lowers m (m + 1)
  rw [abc_cut m h] at this
  exact this
theorem BestI.cast {a b x : HN} {C D : Int} (h : BestI a b x C) (e : C = D) : BestI a b x D := e ▸ h
theorem best_hole {a b best x : HN} {C : Int} (h : BestI a b best C) (hC : codeH x = C) (hr : 0 ≤ rank x.l ∧ rank x.l ≤ 26 ∧ 0 ≤ x.num ∧ x.num ≤ 9 ∧ 0 ≤ x.den ∧ x.den ≤ 9 ∧ letterB x.l = true) (hx : x.valid = false) : BestI a b best (C + 1) := by
  refine best_bad h fun y hy e => ?_
  obtain ⟨r1, r2, r3, r4, r5, r6, r7⟩ := code_rng hy
  obtain ⟨s1, s2, s3, s4, s5, s6, s7⟩ := hr
  rw [← hC] at e
  unfold codeH at e
  have e1 : y.n = x.n := by omega
  have e2 : rank y.l = rank x.l := by omega
  have e3 : y.den = x.den := by omega
  have e4 : y.num = x.num := by omega
  have e5 := rank_inj ((valid_iff y).1 hy).2.2.1 s7 e2
  have : y = x := by cases x; cases y; simp_all
  rw [this, hx] at hy
  cases hy
theorem code_let {n : Int} {l d q : Nat} (hl : l < 27) : codeH ⟨n, letR l, q, d⟩ = (n * 27 + (l : Int)) * 100 + (d : Int) * 10 + (q : Int) := by
  unfold codeH
  simp only
  rw [(letR_fin l hl).1]
  omega
/-- behind the numerators of a denominator -/
theorem best_row {a b best : HN} {n : Int} {l d : Nat} (hl : l < 27) (hd : d ≤ 9) (h : BestI a b best ((n * 27 + (l : Int)) * 100 + (d : Int) * 10 + ((d + 1 : Nat) : Int))) : BestI a b best ((n * 27 + (l : Int)) * 100 + ((d + 1 : Nat) : Int) * 10) := by
  refine best_skip h fun x h1 h2 h3 => ?_
  obtain ⟨r1, r2, r3, r4, r5, r6, r7⟩ := code_rng ((lt_iff _ _).1 h1).2.1
  unfold codeH at h3 ⊢
  omega
structure BtW (a b : HN) (w : World) (S : Nat) (wr : World) (best : HN) (C : Int) : Prop where
  sz : w.heap.size + 2 < S
  ha : HBox wr w.heap.size a
  hb : HBox wr (w.heap.size + 1) b
  hr : HBox wr (w.heap.size + 2) zeroH
  hs : HBox wr S best
  bel : Below w.heap.size w wr
  inv : BestI a b best C
theorem BtW.to {a b best : HN} {w wr w' : World} {S : Nat} {C : Int} (h : BtW a b w S wr best C) (hb : Below wr.heap.size wr w') : BtW a b w S w' best C := ⟨h.sz, h.ha.to hb, h.hb.to hb, h.hr.to hb, h.hs.to hb, h.bel.trans (hb.mono h.bel.size), h.inv⟩
theorem BtW.far {a b best : HN} {w wr : World} {S : Nat} {C : Int} (h : BtW a b w S wr best C) {X i : Nat} (hX : S < X) (v : Value) : BtW a b w S (wr.setCell ⟨X, i, none⟩ v) best C :=
  ⟨h.sz, ⟨h.ha.blk.far (p := ⟨X, i, none⟩) (by show w.heap.size ≠ X; have := h.sz; omega) v⟩, ⟨h.hb.blk.far (p := ⟨X, i, none⟩) (by show w.heap.size + 1 ≠ X; have := h.sz; omega) v⟩, ⟨h.hr.blk.far (p := ⟨X, i, none⟩) (by show w.heap.size + 2 ≠ X; have := h.sz; omega) v⟩, ⟨h.hs.blk.far (p := ⟨X, i, none⟩) (by show S ≠ X; omega) v⟩, h.bel.setCell (p := ⟨X, i, none⟩) (by show w.heap.size ≤ X; have := h.sz; omega) v, h.inv⟩
theorem BtW.alloc {a b best : HN} {w wr : World} {S : Nat} {C : Int} (h : BtW a b w S wr best C) (o : Obj) : BtW a b w S (wr.alloc o) best C := h.to (Below.alloc (Below.refl _ _) (Nat.le_refl _) o)
theorem BtW.inv_ {a b best : HN} {w wr : World} {S : Nat} {C D : Int} (h : BtW a b w S wr best C) (hi : BestI a b best D) : BtW a b w S wr best D := ⟨h.sz, h.ha, h.hb, h.hr, h.hs, h.bel, hi⟩
/-- a new best one -/
theorem BtW.put {a b best x : HN} {w wr : World} {S : Nat} {C D : Int} (h : BtW a b w S wr best C) (hi : BestI a b x D) : BtW a b w S ((((wr.setCell ⟨S, 0, none⟩ (.int .i64 x.n)).setCell ⟨S, 1, none⟩ (.string ⟨x.l.toArray⟩)).setCell ⟨S, 2, none⟩ (.int .i64 x.num)).setCell ⟨S, 3, none⟩ (.int .i64 x.den)) x D :=
  ⟨h.sz, ⟨((((h.ha.blk.far (p := ⟨S, 0, none⟩) (by show w.heap.size ≠ S; have := h.sz; omega) _).far (p := ⟨S, 1, none⟩) (by show w.heap.size ≠ S; have := h.sz; omega) _).far (p := ⟨S, 2, none⟩) (by show w.heap.size ≠ S; have := h.sz; omega) _).far (p := ⟨S, 3, none⟩) (by show w.heap.size ≠ S; have := h.sz; omega) _)⟩,
   ⟨((((h.hb.blk.far (p := ⟨S, 0, none⟩) (by show w.heap.size + 1 ≠ S; have := h.sz; omega) _).far (p := ⟨S, 1, none⟩) (by show w.heap.size + 1 ≠ S; have := h.sz; omega) _).far (p := ⟨S, 2, none⟩) (by show w.heap.size + 1 ≠ S; have := h.sz; omega) _).far (p := ⟨S, 3, none⟩) (by show w.heap.size + 1 ≠ S; have := h.sz; omega) _)⟩,
   ⟨((((h.hr.blk.far (p := ⟨S, 0, none⟩) (by show w.heap.size + 2 ≠ S; have := h.sz; omega) _).far (p := ⟨S, 1, none⟩) (by show w.heap.size + 2 ≠ S; have := h.sz; omega) _).far (p := ⟨S, 2, none⟩) (by show w.heap.size + 2 ≠ S; have := h.sz; omega) _).far (p := ⟨S, 3, none⟩) (by show w.heap.size + 2 ≠ S; have := h.sz; omega) _)⟩,
   ⟨((((((h.hs.blk.set_ 0 _).set_ 1 _).set_ 2 _).set_ 3 _)) : Blk _ _ _ (hCells x))⟩,
   ((((h.bel.setCell (p := ⟨S, 0, none⟩) (by show w.heap.size ≤ S; have := h.sz; omega) _).setCell (p := ⟨S, 1, none⟩) (by show w.heap.size ≤ S; have := h.sz; omega) _).setCell (p := ⟨S, 2, none⟩) (by show w.heap.size ≤ S; have := h.sz; omega) _).setCell (p := ⟨S, 3, none⟩) (by show w.heap.size ≤ S; have := h.sz; omega) _), hi⟩
theorem HBox.far4 {wr : World} {X Y : Nat} {y x : HN} (h : HBox wr X y) (hX : X ≠ Y) : HBox ((((wr.setCell ⟨Y, 0, none⟩ (.int .i64 x.n)).setCell ⟨Y, 1, none⟩ (.string ⟨x.l.toArray⟩)).setCell ⟨Y, 2, none⟩ (.int .i64 x.num)).setCell ⟨Y, 3, none⟩ (.int .i64 x.den)) X y :=
  ⟨(((h.blk.far (p := ⟨Y, 0, none⟩) hX _).far (p := ⟨Y, 1, none⟩) hX _).far (p := ⟨Y, 2, none⟩) hX _).far (p := ⟨Y, 3, none⟩) hX _⟩
def L1 (a b : HN) (w : World) (S : Nat) (wr : World) (t : Value) : Prop := ∃ n : Int, t = .int .i64 n ∧ (a.n ≤ n ∧ n ≤ 10000 ∧ n ≤ a.n + 2) ∧ Hid (∃ best, BtW a b w S wr best (n * 2700))
def L2 (a b : HN) (w : World) (S : Nat) (wr : World) (n : Int) (t : Value) : Prop := ∃ l : Nat, t = .int .i64 (l : Int) ∧ l ≤ 27 ∧ Hid (∃ best, BtW a b w S wr best (n * 2700 + (l : Int) * 100))
def L3 (a b : HN) (w : World) (S : Nat) (wr : World) (n : Int) (l X : Nat) (t : Value) : Prop := ∃ d : Nat, t = .int .i64 (d : Int) ∧ d ≤ 10 ∧ Hid (∃ nm dn, HBox wr X ⟨n, letR l, nm, dn⟩) ∧ Hid (∃ best, BtW a b w S wr best ((n * 27 + (l : Int)) * 100 + (d : Int) * 10))
def L4 (a b : HN) (w : World) (S : Nat) (wr : World) (n : Int) (l d X : Nat) (t : Value) : Prop := ∃ q : Nat, t = .int .i64 (q : Int) ∧ q ≤ d + 1 ∧ Hid (∃ nm dn, HBox wr X ⟨n, letR l, nm, dn⟩) ∧ Hid (∃ best, BtW a b w S wr best ((n * 27 + (l : Int)) * 100 + (d : Int) * 10 + (q : Int)))
set_option maxRecDepth 100000 in
set_option maxHeartbeats 16000000 in
theorem rBetween_any (a b : HN) (w : World) (ha : a.fit) (hb : b.fit) : Calls Tryd.prog 18 #[hval a, hval b] w fun e w' => e = .returned (.tuple #[hval (betV a b), .int .i64 (betE a b)]) ∧ Below w.heap.size w w' := by
  have HN3 := hide (hNew3 w a b zeroH)
  have HB3 := hide ((((Below.refl w.heap.size w).alloc (Nat.le_refl _) (.cells #[.int .i64 a.n, .string ⟨a.l.toArray⟩, .int .i64 a.num, .int .i64 a.den] 23)).alloc (by simp) (.cells #[.int .i64 b.n, .string ⟨b.l.toArray⟩, .int .i64 b.num, .int .i64 b.den] 23)).alloc (by simp <;> omega) (.cells #[.int .i64 0, .string ⟨#[]⟩, .int .i64 0, .int .i64 0] 23))
  have VA := fun w => rValid_any a w ha
  have VB := fun w => rValid_any b w hb
  clear ha hb
  go_enter Tryd.func18, Tryd.ntmps18
  unfold hval
  go_wp2_with fail
  change Hid (HBox (((w.alloc (.cells #[.int .i64 a.n, .string ⟨a.l.toArray⟩, .int .i64 a.num, .int .i64 a.den] 23)).alloc (.cells #[.int .i64 b.n, .string ⟨b.l.toArray⟩, .int .i64 b.num, .int .i64 b.den] 23)).alloc (.cells #[.int .i64 0, .string ⟨#[]⟩, .int .i64 0, .int .i64 0] 23)) w.heap.size a ∧ HBox (((w.alloc (.cells #[.int .i64 a.n, .string ⟨a.l.toArray⟩, .int .i64 a.num, .int .i64 a.den] 23)).alloc (.cells #[.int .i64 b.n, .string ⟨b.l.toArray⟩, .int .i64 b.num, .int .i64 b.den] 23)).alloc (.cells #[.int .i64 0, .string ⟨#[]⟩, .int .i64 0, .int .i64 0] 23)) (w.heap.size + 1) b ∧ HBox (((w.alloc (.cells #[.int .i64 a.n, .string ⟨a.l.toArray⟩, .int .i64 a.num, .int .i64 a.den] 23)).alloc (.cells #[.int .i64 b.n, .string ⟨b.l.toArray⟩, .int .i64 b.num, .int .i64 b.den] 23)).alloc (.cells #[.int .i64 0, .string ⟨#[]⟩, .int .i64 0, .int .i64 0] 23)) (w.heap.size + 2) zeroH) at HN3
  have HSZ : Hid ((((w.alloc (.cells #[.int .i64 a.n, .string ⟨a.l.toArray⟩, .int .i64 a.num, .int .i64 a.den] 23)).alloc (.cells #[.int .i64 b.n, .string ⟨b.l.toArray⟩, .int .i64 b.num, .int .i64 b.den] 23)).alloc (.cells #[.int .i64 0, .string ⟨#[]⟩, .int .i64 0, .int .i64 0] 23)).heap.size = w.heap.size + 3) := by show _ = _; simp
  generalize ((w.alloc (.cells #[.int .i64 a.n, .string ⟨a.l.toArray⟩, .int .i64 a.num, .int .i64 a.den] 23)).alloc (.cells #[.int .i64 b.n, .string ⟨b.l.toArray⟩, .int .i64 b.num, .int .i64 b.den] 23)).alloc (.cells #[.int .i64 0, .string ⟨#[]⟩, .int .i64 0, .int .i64 0] 23) = w1 at *
  obtain ⟨U, hU, g, u0, rfl, hgu, hi⟩ := cls w1
  obtain ⟨a0, a1, a2, a3⟩ := box_all hgu HN3.out.1
  obtain ⟨b0, b1, b2, b3⟩ := box_all hgu HN3.out.2.1
  obtain ⟨r0, r1, r2, r3⟩ := box_all hgu HN3.out.2.2
  simp only [zeroH] at r0 r1 r2 r3
  have f0 := fun u => (HN3.out.2.2.to (hgu u)).blk.frozen 0
  have f1 := fun u => (HN3.out.2.2.to (hgu u)).blk.frozen 1
  have f2 := fun u => (HN3.out.2.2.to (hgu u)).blk.frozen 2
  have f3 := fun u => (HN3.out.2.2.to (hgu u)).blk.frozen 3
  have CA := cls_call hgu hi (fun w _ => VA w)
  have CB := cls_call hgu hi (fun w _ => VB w)
  simp only [hval] at CA CB
  have HGU := hide hgu
  cases h1 : a.valid
  · have HV : Hid (betV a b = zeroH ∧ betE a b = 1) := by
      have hc : cmpE a b = 1 := by unfold cmpE; rw [h1]; rfl
      have := bet_err (a := a) (b := b) (by rw [hc]; decide)
      rw [hc] at this; exact this
    rw [h1] at CA
    clear h1
    go_wp2_with (first | ((with_reducible refine (CA _).mono ?_); rintro e w' ⟨rfl, u, rfl⟩) | ((with_reducible refine (CB _).mono ?_); rintro e w' ⟨rfl, u, rfl⟩))
    have hbk : Blk (((((g u).setCell ⟨w.heap.size + 2, 0, none⟩ (.int .i64 zeroH.n)).setCell ⟨w.heap.size + 2, 1, none⟩ (.string ⟨zeroH.l.toArray⟩)).setCell ⟨w.heap.size + 2, 2, none⟩ (.int .i64 zeroH.num)).setCell ⟨w.heap.size + 2, 3, none⟩ (.int .i64 zeroH.den)) (w.heap.size + 2) 23 (hCells zeroH) := (((((HN3.out.2.2.to (HGU.out _)).blk.set_ 0 _).set_ 1 _).set_ 2 _).set_ 3 _)
    refine bodyPost_ret (results_cell_tmp (p := 4) (u := 5) rfl _ _ (w.heap.size + 2) 23 _ _ rfl hbk Tryd.underlying23 rfl (by kernel_rfl)) rfl ⟨ret_hn HV.out.1.symm HV.out.2.symm, ?_⟩
    exact (((((HB3.out.trans ((HGU.out _).mono HB3.out.size)).setCell (p := ⟨w.heap.size + 2, 0, none⟩) (Nat.le_add_right _ _) _).setCell (p := ⟨w.heap.size + 2, 1, none⟩) (Nat.le_add_right _ _) _).setCell (p := ⟨w.heap.size + 2, 2, none⟩) (Nat.le_add_right _ _) _).setCell (p := ⟨w.heap.size + 2, 3, none⟩) (Nat.le_add_right _ _) _)
  cases h2 : b.valid
  · have HV : Hid (betV a b = zeroH ∧ betE a b = 1) := by
      have hc : cmpE a b = 1 := by unfold cmpE; rw [h1, h2]; rfl
      have := bet_err (a := a) (b := b) (by rw [hc]; decide)
      rw [hc] at this; exact this
    rw [h1] at CA
    rw [h2] at CB
    clear h1 h2
    go_wp2_with (first | ((with_reducible refine (CA _).mono ?_); rintro e w' ⟨rfl, u, rfl⟩) | ((with_reducible refine (CB _).mono ?_); rintro e w' ⟨rfl, u, rfl⟩))
    have hbk : Blk (((((g u).setCell ⟨w.heap.size + 2, 0, none⟩ (.int .i64 zeroH.n)).setCell ⟨w.heap.size + 2, 1, none⟩ (.string ⟨zeroH.l.toArray⟩)).setCell ⟨w.heap.size + 2, 2, none⟩ (.int .i64 zeroH.num)).setCell ⟨w.heap.size + 2, 3, none⟩ (.int .i64 zeroH.den)) (w.heap.size + 2) 23 (hCells zeroH) := (((((HN3.out.2.2.to (HGU.out _)).blk.set_ 0 _).set_ 1 _).set_ 2 _).set_ 3 _)
    refine bodyPost_ret (results_cell_tmp (p := 4) (u := 5) rfl _ _ (w.heap.size + 2) 23 _ _ rfl hbk Tryd.underlying23 rfl (by kernel_rfl)) rfl ⟨ret_hn HV.out.1.symm HV.out.2.symm, ?_⟩
    exact (((((HB3.out.trans ((HGU.out _).mono HB3.out.size)).setCell (p := ⟨w.heap.size + 2, 0, none⟩) (Nat.le_add_right _ _) _).setCell (p := ⟨w.heap.size + 2, 1, none⟩) (Nat.le_add_right _ _) _).setCell (p := ⟨w.heap.size + 2, 2, none⟩) (Nat.le_add_right _ _) _).setCell (p := ⟨w.heap.size + 2, 3, none⟩) (Nat.le_add_right _ _) _)
  have HVA := hide h1
  have HVB := hide h2
  have HC0 : Hid (cmpE a b = 0) := by show _ = _; unfold cmpE; rw [h1, h2]; rfl
  have CL := cls_call hgu hi (fun w _ => rLess_any a b HVA.out HVB.out w)
  simp only [hval] at CL
  rw [h1] at CA
  rw [h2] at CB
  cases hlt : a.lt b
  · have HV : Hid (betV a b = zeroH ∧ betE a b = 13) := by show _ ∧ _; unfold betV betE; rw [HC0.out, hlt]; exact ⟨rfl, rfl⟩
    rw [hlt] at CL
    clear h1 h2 hlt
    go_wp2_with (first | ((with_reducible refine (CA _).mono ?_); rintro e w' ⟨rfl, u, rfl⟩) | ((with_reducible refine (CB _).mono ?_); rintro e w' ⟨rfl, u, rfl⟩) | ((with_reducible refine (CL _).mono ?_); rintro e w' ⟨rfl, u, rfl⟩))
    have hbk : Blk (((((g u).setCell ⟨w.heap.size + 2, 0, none⟩ (.int .i64 zeroH.n)).setCell ⟨w.heap.size + 2, 1, none⟩ (.string ⟨zeroH.l.toArray⟩)).setCell ⟨w.heap.size + 2, 2, none⟩ (.int .i64 zeroH.num)).setCell ⟨w.heap.size + 2, 3, none⟩ (.int .i64 zeroH.den)) (w.heap.size + 2) 23 (hCells zeroH) := (((((HN3.out.2.2.to (HGU.out _)).blk.set_ 0 _).set_ 1 _).set_ 2 _).set_ 3 _)
    refine bodyPost_ret (results_cell_tmp (p := 4) (u := 5) rfl _ _ (w.heap.size + 2) 23 _ _ rfl hbk Tryd.underlying23 rfl (by kernel_rfl)) rfl ⟨ret_hn HV.out.1.symm HV.out.2.symm, ?_⟩
    exact (((((HB3.out.trans ((HGU.out _).mono HB3.out.size)).setCell (p := ⟨w.heap.size + 2, 0, none⟩) (Nat.le_add_right _ _) _).setCell (p := ⟨w.heap.size + 2, 1, none⟩) (Nat.le_add_right _ _) _).setCell (p := ⟨w.heap.size + 2, 2, none⟩) (Nat.le_add_right _ _) _).setCell (p := ⟨w.heap.size + 2, 3, none⟩) (Nat.le_add_right _ _) _)
  have HLT := hide hlt
  have HAN : Hid (1 ≤ a.n ∧ a.n ≤ 9999) := by have := (valid_iff a).1 h1; exact ⟨this.1, this.2.1⟩
  rw [hlt] at CL
  clear h1 h2 hlt hgu hi
  have hlt := fun u => Nat.lt_of_lt_of_le (show w.heap.size < (g u0).heap.size by rw [HSZ.out]; omega) (HGU.out u).size
  go_wp2_with (first | ((with_reducible refine (CA _).mono ?_); rintro e w' ⟨rfl, u, rfl⟩) | ((with_reducible refine (CB _).mono ?_); rintro e w' ⟨rfl, u, rfl⟩) | ((with_reducible refine (CL _).mono ?_); rintro e w' ⟨rfl, u, rfl⟩))
  have HW1 : Hid (BtW a b w (g u).heap.size ((g u).alloc (.cells #[.int .i64 0, .string ⟨#[]⟩, .int .i64 0, .int .i64 0] 23)) zeroH (a.n * 2700)) :=
    ⟨by have := (HGU.out u).size; rw [HSZ.out] at this; omega, ⟨(HN3.out.1.to (HGU.out u)).blk.alloc _⟩, ⟨(HN3.out.2.1.to (HGU.out u)).blk.alloc _⟩, ⟨(HN3.out.2.2.to (HGU.out u)).blk.alloc _⟩, HBox.new (g u) zeroH, (HB3.out.trans ((HGU.out u).mono HB3.out.size)).alloc (Nat.le_trans HB3.out.size (HGU.out u).size) _, best_start⟩
  clear a0 a1 a2 a3 b0 b1 b2 b3 r0 r1 r2 r3 f0 f1 f2 f3 CA CB CL hlt
  generalize (g u).alloc (.cells #[.int .i64 0, .string ⟨#[]⟩, .int .i64 0, .int .i64 0] 23) = w3 at *
  generalize (g u).heap.size = S at *
  go_loopw [7] (fun t wr => L1 a b w S wr t) (fun t _ => (10001 - intOf t).toNat)
  case atStart => exact ⟨a.n, rfl, by have := HAN.out; omega, ⟨zeroH, HW1.out⟩⟩
  case round =>
    clear HW1
    obtain ⟨n, rfl, ⟨hn1, hn2, hn3⟩, HWx⟩ := hrel
    have HAx : Hid (∃ bb, BtW a b w S wr bb (n * 2700)) := HWx.out
    obtain ⟨bb, HWy⟩ := HAx.out
    obtain ⟨a0, a1, a2, a3⟩ := HWy.ha.facts
    clear HWy HAx
    have hA := HAN.out
    by_cases h9 : n ≤ 9999
    · have e1 : decide (n ≤ 9999) = true := decide_eq_true h9
      by_cases hn : n ≤ a.n + 1
      · have e2 : decide (n ≤ a.n + 1) = true := decide_eq_true hn
        clear a1 a2 a3
        go_wp2_with fail
        clear a0
        go_loopw [8, 9] (fun t _ wr => L2 a b w S wr n t) (fun t _ _ => (27 - intOf t).toNat)
        case atStart => exact ⟨0, rfl, by omega, by obtain ⟨bb, hb⟩ := HWx.out; exact ⟨bb, hb.inv_ (hb.inv.cast (by omega))⟩⟩
        case round =>
          clear HWx
          obtain ⟨l, rfl, hl27, HWx⟩ := hrel
          by_cases hl : l < 27
          · have e3 : decide ((l : Int) ≤ 26) = true := decide_eq_true (by omega)
            obtain ⟨best0, HWy⟩ := HWx.out
            have HX3 : Hid (S < wr.heap.size) := HWy.hs.blk.lt
            by_cases h0 : l = 0
            · have e4 : decide ((0 : Int) < (l : Int)) = false := decide_eq_false (by omega)
              have e4' : decide (0 < l) = false := decide_eq_false (by omega)
              have HWa := hide (HWy.alloc (.cells #[.int .i64 n, .string ⟨#[]⟩, .int .i64 0, .int .i64 0] 23))
              have HXa : Hid (HBox (wr.alloc (.cells #[.int .i64 n, .string ⟨#[]⟩, .int .i64 0, .int .i64 0] 23)) wr.heap.size ⟨n, letR l, 0, 0⟩) := by
                show HBox _ _ _
                rw [show letR l = [] by rw [h0]; rfl]
                exact HBox.new wr ⟨n, [], 0, 0⟩
              clear h0 HWx HWy
              go_wp2_with fail
              generalize wr.alloc (.cells #[.int .i64 n, .string ⟨#[]⟩, .int .i64 0, .int .i64 0] 23) = w4 at *
              generalize wr.heap.size = X at *
              go_loopw [10] (fun t wr => L3 a b w S wr n l X t) (fun t _ => (10 - intOf t).toNat)
              case atStart => exact ⟨0, rfl, by omega, ⟨_, _, HXa.out⟩, ⟨best0, HWa.out.inv_ (HWa.out.inv.cast (by omega))⟩⟩
              case round =>
                clear HXa HWa
                obtain ⟨d, rfl, hd, HXx, HWx⟩ := hrel
                by_cases hd9 : d ≤ 9
                · have e3 : decide ((d : Int) ≤ 9) = true := decide_eq_true (by omega)
                  go_wp2_with fail
                  go_loopw [11] (fun t wr => L4 a b w S wr n l d X t) (fun t _ => ((d : Int) + 1 - intOf t).toNat)
                  case atStart => exact ⟨0, rfl, by omega, HXx.out, by obtain ⟨bb, hb⟩ := HWx.out; exact ⟨bb, hb.inv_ (hb.inv.cast (by omega))⟩⟩
                  case round =>
                    clear HXx HWx
                    obtain ⟨q, rfl, hq, HXx, HWx⟩ := hrel
                    by_cases hqd : q ≤ d
                    · skip
                      obtain ⟨nm, dn, HX4⟩ := HXx.out
                      obtain ⟨best, HW4⟩ := HWx.out
                      obtain ⟨x0, x1, x2, x3⟩ := HX4.facts
                      have z2 := HX4.blk.frozen 2
                      have z3 := HX4.blk.frozen 3
                      have e4 : decide ((q : Int) ≤ (d : Int)) = true := decide_eq_true (by omega)
                      have HX5 : Hid (HBox ((wr.setCell ⟨X, 2, none⟩ (.int .i64 (q : Int))).setCell ⟨X, 3, none⟩ (.int .i64 (d : Int))) X ⟨n, letR l, (q : Int), (d : Int)⟩) := ⟨(HX4.blk.set_ 2 (.int .i64 (q : Int))).set_ 3 (.int .i64 (d : Int))⟩
                      have HW5 := hide ((HW4.far HX3.out (i := 2) (.int .i64 (q : Int))).far HX3.out (i := 3) (.int .i64 (d : Int)))
                      clear HX4 HW4 HXx HWx
                      simp only at x0 x1 x2 x3
                      go_wp2_with fail
                      generalize (wr.setCell ⟨X, 2, none⟩ (.int .i64 (q : Int))).setCell ⟨X, 3, none⟩ (.int .i64 (d : Int)) = w5 at *
                      clear x0 x1 x2 x3 z2 z3
                      obtain ⟨U, hU, g, u0, rfl, hgu, hi⟩ := cls w5
                      obtain ⟨x0, x1, x2, x3⟩ := box_all hgu HX5.out
                      obtain ⟨a0, a1, a2, a3⟩ := box_all hgu HW5.out.ha
                      obtain ⟨b0, b1, b2, b3⟩ := box_all hgu HW5.out.hb
                      obtain ⟨s0, s1, s2, s3⟩ := box_all hgu HW5.out.hs
                      simp only at x0 x1 x2 x3
                      have hlf := letR_fin l hl
                      have HXF : Hid (HN.fit ⟨n, letR l, (q : Int), (d : Int)⟩) := by have := letter_size hlf.2; show _ ≤ maxLen; unfold maxLen; simp only; omega
                      have CV := cls_call hgu hi (fun w _ => rValid_any ⟨n, letR l, (q : Int), (d : Int)⟩ w HXF.out)
                      simp only [hval] at CV
                      have HGU := hide hgu
                      have HHI := hide hi
                      have HCD := hide (code_let (n := n) (l := l) (d := d) (q := q) hl)
                      have HRG : Hid (0 ≤ rank (letR l) ∧ rank (letR l) ≤ 26 ∧ (0 : Int) ≤ (q : Int) ∧ (q : Int) ≤ 9 ∧ (0 : Int) ≤ (d : Int) ∧ (d : Int) ≤ 9 ∧ letterB (letR l) = true) := by show _ ∧ _; rw [hlf.1]; exact ⟨by omega, by omega, by omega, by omega, by omega, by omega, hlf.2⟩
                      clear hlf hgu
                      cases hv : HN.valid ⟨n, letR l, (q : Int), (d : Int)⟩
                      · rw [hv] at CV
                        have HNB := hide (best_hole HW5.out.inv HCD.out HRG.out hv)
                        clear hv hi
                        go_wp2_with (first | ((with_reducible refine (CV _).mono ?_); rintro e w' ⟨rfl, u, rfl⟩))
                        refine ⟨⟨q + 1, by go_num, by omega, ⟨_, _, (HX5.out.to (HGU.out _))⟩, ⟨best, ((HW5.out.to (HGU.out _)).inv_ (HNB.out.cast (by omega)))⟩⟩, ?_⟩
                        simp [intOf]; omega
                      have CL1 := cls_call HGU.out hi (fun w _ => rLess_any a ⟨n, letR l, (q : Int), (d : Int)⟩ HVA.out hv w)
                      have CL2 := cls_call HGU.out hi (fun w _ => rLess_any ⟨n, letR l, (q : Int), (d : Int)⟩ b hv HVB.out w)
                      simp only [hval] at CL1 CL2
                      rw [hv] at CV
                      cases hl1 : a.lt ⟨n, letR l, (q : Int), (d : Int)⟩
                      · rw [hl1] at CL1
                        have HNB := hide (best_no HW5.out.inv HCD.out (by rw [hl1]; simp) hv)
                        clear hv hl1 hi CL2
                        go_wp2_with (first | ((with_reducible refine (CV _).mono ?_); rintro e w' ⟨rfl, u, rfl⟩) | ((with_reducible refine (CL1 _).mono ?_); rintro e w' ⟨rfl, u, rfl⟩))
                        refine ⟨⟨q + 1, by go_num, by omega, ⟨_, _, (HX5.out.to (HGU.out _))⟩, ⟨best, ((HW5.out.to (HGU.out _)).inv_ (HNB.out.cast (by omega)))⟩⟩, ?_⟩
                        simp [intOf]; omega
                      cases hl2 : HN.lt ⟨n, letR l, (q : Int), (d : Int)⟩ b
                      · rw [hl1] at CL1
                        rw [hl2] at CL2
                        have HNB := hide (best_no HW5.out.inv HCD.out (by rw [hl2]; simp) hv)
                        clear hv hl1 hl2 hi
                        go_wp2_with (first | ((with_reducible refine (CV _).mono ?_); rintro e w' ⟨rfl, u, rfl⟩) | ((with_reducible refine (CL1 _).mono ?_); rintro e w' ⟨rfl, u, rfl⟩) | ((with_reducible refine (CL2 _).mono ?_); rintro e w' ⟨rfl, u, rfl⟩))
                        refine ⟨⟨q + 1, by go_num, by omega, ⟨_, _, (HX5.out.to (HGU.out _))⟩, ⟨best, ((HW5.out.to (HGU.out _)).inv_ (HNB.out.cast (by omega)))⟩⟩, ?_⟩
                        simp [intOf]; omega
                      rw [hl1] at CL1
                      rw [hl2] at CL2
                      have CGx := cls_call HGU.out hi (fun w _ => rGroup_any ⟨n, letR l, (q : Int), (d : Int)⟩ (by show (0 : Int) ≤ (d : Int); omega) w)
                      simp only [hval] at CGx
                      have z0 := fun u => (HW5.out.to (HGU.out u)).hs.blk.frozen 0
                      have z1 := fun u => (HW5.out.to (HGU.out u)).hs.blk.frozen 1
                      have z2 := fun u => (HW5.out.to (HGU.out u)).hs.blk.frozen 2
                      have z3 := fun u => (HW5.out.to (HGU.out u)).hs.blk.frozen 3
                      have HBV : Hid (best = zeroH ∨ best.valid = true) := by
                        rcases HW5.out.inv with h | h
                        · exact .inl h.1
                        · exact .inr ((lt_iff _ _).1 h.1.1).2.1
                      rcases HBV.out with hz | hbv
                      · subst hz
                        have HNB := hide (best_yes HW5.out.inv HCD.out ⟨hl1, hl2⟩ rfl)
                        clear hv hl1 hl2 hi HBV HRG
                        simp only [zeroH] at s0 s1 s2 s3
                        go_wp2_with (first | ((with_reducible refine (CV _).mono ?_); rintro e w' ⟨rfl, u, rfl⟩) | ((with_reducible refine (CL1 _).mono ?_); rintro e w' ⟨rfl, u, rfl⟩) | ((with_reducible refine (CL2 _).mono ?_); rintro e w' ⟨rfl, u, rfl⟩))
                        refine wp_region_class g (by kernel_rfl) (by kernel_rfl) (HHI.out _ (HGU.out _).drew) ?_
                        repeat (go_big_quiet_step (first | fail))
                        refine wpQuiet_nil ?_
                        intro w7 hw7
                        obtain ⟨u, rfl⟩ := hw7
                        go_wp2_with fail
                        refine ⟨⟨q + 1, by go_num, by omega, ⟨_, _, ((HX5.out.to (HGU.out _)).far4 (x := ⟨n, letR l, (q : Int), (d : Int)⟩) (Nat.ne_of_gt HX3.out))⟩, ⟨⟨n, letR l, (q : Int), (d : Int)⟩, ((HW5.out.to (HGU.out _)).put (x := ⟨n, letR l, (q : Int), (d : Int)⟩) (HNB.out.cast (by omega)))⟩⟩, ?_⟩
                        simp [intOf]; omega
                      have CGb := cls_call HGU.out hi (fun w _ => rGroup_any best (by have := (code_rng hbv); omega) w)
                      have CLb := cls_call HGU.out hi (fun w _ => rLess_any ⟨n, letR l, (q : Int), (d : Int)⟩ best hv hbv w)
                      simp only [hval] at CGb CLb
                      have hbn := ((valid_iff best).1 hbv).1
                      have e5 : (best.n == 0) = false := by rw [beq_eq_false_iff_ne]; omega
                      have HBB : Hid (betterB best ⟨n, letR l, (q : Int), (d : Int)⟩ = (decide (group ⟨n, letR l, (q : Int), (d : Int)⟩ < group best) || (decide (group ⟨n, letR l, (q : Int), (d : Int)⟩ = group best) && HN.lt ⟨n, letR l, (q : Int), (d : Int)⟩ best))) := by show _ = _; unfold betterB; rw [decide_eq_false (by omega), Bool.false_or]
                      have HYES := hide (fun h => best_yes HW5.out.inv HCD.out ⟨hl1, hl2⟩ h)
                      have HKEEP := hide (fun h => best_keep HW5.out.inv HCD.out ⟨hl1, hl2⟩ h)
                      clear hv hl1 hl2 hi HBV HRG hbn hbv
                      generalize group ⟨n, letR l, (q : Int), (d : Int)⟩ = gx at *
                      generalize group best = gb at *
                      generalize HN.lt ⟨n, letR l, (q : Int), (d : Int)⟩ best = lb at *
                      by_cases h1 : gx < gb
                      · have e6 : decide (gx < gb) = true := decide_eq_true h1
                        have HNB := hide (HYES.out (HBB.out.trans (by rw [e6]; rfl)))
                        clear h1 HYES HKEEP HBB
                        go_wp2_with (first | ((with_reducible refine (CV _).mono ?_); rintro e w' ⟨rfl, u, rfl⟩) | ((with_reducible refine (CL1 _).mono ?_); rintro e w' ⟨rfl, u, rfl⟩) | ((with_reducible refine (CL2 _).mono ?_); rintro e w' ⟨rfl, u, rfl⟩))
                        refine wp_region_class g (by kernel_rfl) (by kernel_rfl) (HHI.out _ (HGU.out _).drew) ?_
                        repeat (go_big_quiet_step (first | with_reducible exact CGx _ | with_reducible exact CGb _ | with_reducible exact CLb _))
                        refine wpQuiet_nil ?_
                        intro w7 hw7
                        obtain ⟨u, rfl⟩ := hw7
                        go_wp2_with fail
                        refine ⟨⟨q + 1, by go_num, by omega, ⟨_, _, ((HX5.out.to (HGU.out _)).far4 (x := ⟨n, letR l, (q : Int), (d : Int)⟩) (Nat.ne_of_gt HX3.out))⟩, ⟨⟨n, letR l, (q : Int), (d : Int)⟩, ((HW5.out.to (HGU.out _)).put (x := ⟨n, letR l, (q : Int), (d : Int)⟩) (HNB.out.cast (by omega)))⟩⟩, ?_⟩
                        simp [intOf]; omega
                      have e6 : decide (gx < gb) = false := decide_eq_false h1
                      by_cases h2 : gx = gb
                      · subst h2
                        have e7 : (gx == gx) = true := by simp
                        cases lb
                        · have HNB := hide (HKEEP.out (HBB.out.trans (by rw [e6]; simp)))
                          clear h1 HYES HKEEP HBB
                          go_wp2_with (first | ((with_reducible refine (CV _).mono ?_); rintro e w' ⟨rfl, u, rfl⟩) | ((with_reducible refine (CL1 _).mono ?_); rintro e w' ⟨rfl, u, rfl⟩) | ((with_reducible refine (CL2 _).mono ?_); rintro e w' ⟨rfl, u, rfl⟩))
                          refine wp_region_class g (by kernel_rfl) (by kernel_rfl) (HHI.out _ (HGU.out _).drew) ?_
                          repeat (go_big_quiet_step (first | with_reducible exact CGx _ | with_reducible exact CGb _ | with_reducible exact CLb _))
                          refine wpQuiet_nil ?_
                          intro w7 hw7
                          obtain ⟨u, rfl⟩ := hw7
                          go_wp2_with fail
                          refine ⟨⟨q + 1, by go_num, by omega, ⟨_, _, (HX5.out.to (HGU.out _))⟩, ⟨best, ((HW5.out.to (HGU.out _)).inv_ (HNB.out.cast (by omega)))⟩⟩, ?_⟩
                          simp [intOf]; omega
                        · have HNB := hide (HYES.out (HBB.out.trans (by rw [e6]; simp)))
                          clear h1 HYES HKEEP HBB
                          go_wp2_with (first | ((with_reducible refine (CV _).mono ?_); rintro e w' ⟨rfl, u, rfl⟩) | ((with_reducible refine (CL1 _).mono ?_); rintro e w' ⟨rfl, u, rfl⟩) | ((with_reducible refine (CL2 _).mono ?_); rintro e w' ⟨rfl, u, rfl⟩))
                          refine wp_region_class g (by kernel_rfl) (by kernel_rfl) (HHI.out _ (HGU.out _).drew) ?_
                          repeat (go_big_quiet_step (first | with_reducible exact CGx _ | with_reducible exact CGb _ | with_reducible exact CLb _))
                          refine wpQuiet_nil ?_
                          intro w7 hw7
                          obtain ⟨u, rfl⟩ := hw7
                          go_wp2_with fail
                          refine ⟨⟨q + 1, by go_num, by omega, ⟨_, _, ((HX5.out.to (HGU.out _)).far4 (x := ⟨n, letR l, (q : Int), (d : Int)⟩) (Nat.ne_of_gt HX3.out))⟩, ⟨⟨n, letR l, (q : Int), (d : Int)⟩, ((HW5.out.to (HGU.out _)).put (x := ⟨n, letR l, (q : Int), (d : Int)⟩) (HNB.out.cast (by omega)))⟩⟩, ?_⟩
                          simp [intOf]; omega
                      · have e7 : (gx == gb) = false := by rw [beq_eq_false_iff_ne]; exact h2
                        have HNB := hide (HKEEP.out (HBB.out.trans (by rw [e6, decide_eq_false h2]; simp)))
                        clear h1 h2 HYES HKEEP HBB
                        go_wp2_with (first | ((with_reducible refine (CV _).mono ?_); rintro e w' ⟨rfl, u, rfl⟩) | ((with_reducible refine (CL1 _).mono ?_); rintro e w' ⟨rfl, u, rfl⟩) | ((with_reducible refine (CL2 _).mono ?_); rintro e w' ⟨rfl, u, rfl⟩))
                        refine wp_region_class g (by kernel_rfl) (by kernel_rfl) (HHI.out _ (HGU.out _).drew) ?_
                        repeat (go_big_quiet_step (first | with_reducible exact CGx _ | with_reducible exact CGb _ | with_reducible exact CLb _))
                        refine wpQuiet_nil ?_
                        intro w7 hw7
                        obtain ⟨u, rfl⟩ := hw7
                        go_wp2_with fail
                        refine ⟨⟨q + 1, by go_num, by omega, ⟨_, _, (HX5.out.to (HGU.out _))⟩, ⟨best, ((HW5.out.to (HGU.out _)).inv_ (HNB.out.cast (by omega)))⟩⟩, ?_⟩
                        simp [intOf]; omega
                    · obtain rfl : q = d + 1 := by omega
                      have e4 : decide (((d + 1 : Nat) : Int) ≤ (d : Int)) = false := decide_eq_false (by omega)
                      have e4' : decide ((d : Int) + 1 ≤ (d : Int)) = false := decide_eq_false (by omega)
                      have HWn : Hid (∃ best, BtW a b w S wr best ((n * 27 + (l : Int)) * 100 + ((d + 1 : Nat) : Int) * 10)) := by
                        obtain ⟨bb, hb⟩ := HWx.out
                        exact ⟨bb, hb.inv_ (best_row hl hd9 hb.inv)⟩
                      clear HWx
                      go_wp2_with fail
                      refine ⟨⟨d + 1, by go_num, by omega, HXx.out, HWn.out⟩, ?_⟩
                      simp [intOf]; omega
                · obtain rfl : d = 10 := by omega
                  have e3 : decide (((10 : Nat) : Int) ≤ 9) = false := by decide
                  have HWn : Hid (∃ best, BtW a b w S wr best (n * 2700 + ((l + 1 : Nat) : Int) * 100)) := by
                    obtain ⟨bb, hb⟩ := HWx.out
                    exact ⟨bb, hb.inv_ (hb.inv.cast (by omega))⟩
                  clear HWx
                  go_wp2_with fail
                  refine ⟨⟨l + 1, by go_num, by omega, HWn.out⟩, ?_⟩
                  simp [intOf]; omega
            · obtain ⟨m, rfl⟩ : ∃ m, l = m + 1 := ⟨l - 1, by omega⟩
              have e4 : decide ((0 : Int) < ((m + 1 : Nat) : Int)) = true := decide_eq_true (by omega)
              have e3' : decide ((m : Int) + 1 ≤ 26) = true := decide_eq_true (by omega)
              have ex := abc_ext m (by omega)
              have HWa := hide (HWy.alloc (.cells #[.int .i64 n, .string (bs (letR (m + 1))), .int .i64 0, .int .i64 0] 23))
              have HXa : Hid (HBox (wr.alloc (.cells #[.int .i64 n, .string (bs (letR (m + 1))), .int .i64 0, .int .i64 0] 23)) wr.heap.size ⟨n, letR (m + 1), 0, 0⟩) := HBox.new wr ⟨n, letR (m + 1), 0, 0⟩
              clear h0 HWx HWy
              go_wp2_with fail
              clear ex
              have HML : Hid (m + 1 = Nat.succ m) := rfl
              generalize m + 1 = l at *
              generalize wr.alloc (.cells #[.int .i64 n, .string (bs (letR l)), .int .i64 0, .int .i64 0] 23) = w4 at *
              generalize wr.heap.size = X at *
              go_loopw [10] (fun t wr => L3 a b w S wr n l X t) (fun t _ => (10 - intOf t).toNat)
              case atStart => exact ⟨0, rfl, by omega, ⟨_, _, HXa.out⟩, ⟨best0, HWa.out.inv_ (HWa.out.inv.cast (by omega))⟩⟩
              case round =>
                clear HXa HWa
                obtain ⟨d, rfl, hd, HXx, HWx⟩ := hrel
                by_cases hd9 : d ≤ 9
                · have e3 : decide ((d : Int) ≤ 9) = true := decide_eq_true (by omega)
                  go_wp2_with fail
                  go_loopw [11] (fun t wr => L4 a b w S wr n l d X t) (fun t _ => ((d : Int) + 1 - intOf t).toNat)
                  case atStart => exact ⟨0, rfl, by omega, HXx.out, by obtain ⟨bb, hb⟩ := HWx.out; exact ⟨bb, hb.inv_ (hb.inv.cast (by omega))⟩⟩
                  case round =>
                    clear HXx HWx
                    obtain ⟨q, rfl, hq, HXx, HWx⟩ := hrel
                    by_cases hqd : q ≤ d
                    · skip
                      obtain ⟨nm, dn, HX4⟩ := HXx.out
                      obtain ⟨best, HW4⟩ := HWx.out
                      obtain ⟨x0, x1, x2, x3⟩ := HX4.facts
                      have z2 := HX4.blk.frozen 2
                      have z3 := HX4.blk.frozen 3
                      have e4 : decide ((q : Int) ≤ (d : Int)) = true := decide_eq_true (by omega)
                      have HX5 : Hid (HBox ((wr.setCell ⟨X, 2, none⟩ (.int .i64 (q : Int))).setCell ⟨X, 3, none⟩ (.int .i64 (d : Int))) X ⟨n, letR l, (q : Int), (d : Int)⟩) := ⟨(HX4.blk.set_ 2 (.int .i64 (q : Int))).set_ 3 (.int .i64 (d : Int))⟩
                      have HW5 := hide ((HW4.far HX3.out (i := 2) (.int .i64 (q : Int))).far HX3.out (i := 3) (.int .i64 (d : Int)))
                      clear HX4 HW4 HXx HWx
                      simp only at x0 x1 x2 x3
                      go_wp2_with fail
                      generalize (wr.setCell ⟨X, 2, none⟩ (.int .i64 (q : Int))).setCell ⟨X, 3, none⟩ (.int .i64 (d : Int)) = w5 at *
                      clear x0 x1 x2 x3 z2 z3
                      obtain ⟨U, hU, g, u0, rfl, hgu, hi⟩ := cls w5
                      obtain ⟨x0, x1, x2, x3⟩ := box_all hgu HX5.out
                      obtain ⟨a0, a1, a2, a3⟩ := box_all hgu HW5.out.ha
                      obtain ⟨b0, b1, b2, b3⟩ := box_all hgu HW5.out.hb
                      obtain ⟨s0, s1, s2, s3⟩ := box_all hgu HW5.out.hs
                      simp only at x0 x1 x2 x3
                      have hlf := letR_fin l hl
                      have HXF : Hid (HN.fit ⟨n, letR l, (q : Int), (d : Int)⟩) := by have := letter_size hlf.2; show _ ≤ maxLen; unfold maxLen; simp only; omega
                      have CV := cls_call hgu hi (fun w _ => rValid_any ⟨n, letR l, (q : Int), (d : Int)⟩ w HXF.out)
                      simp only [hval] at CV
                      have HGU := hide hgu
                      have HHI := hide hi
                      have HCD := hide (code_let (n := n) (l := l) (d := d) (q := q) hl)
                      have HRG : Hid (0 ≤ rank (letR l) ∧ rank (letR l) ≤ 26 ∧ (0 : Int) ≤ (q : Int) ∧ (q : Int) ≤ 9 ∧ (0 : Int) ≤ (d : Int) ∧ (d : Int) ≤ 9 ∧ letterB (letR l) = true) := by show _ ∧ _; rw [hlf.1]; exact ⟨by omega, by omega, by omega, by omega, by omega, by omega, hlf.2⟩
                      clear hlf hgu
                      cases hv : HN.valid ⟨n, letR l, (q : Int), (d : Int)⟩
                      · rw [hv] at CV
                        have HNB := hide (best_hole HW5.out.inv HCD.out HRG.out hv)
                        clear hv hi
                        go_wp2_with (first | ((with_reducible refine (CV _).mono ?_); rintro e w' ⟨rfl, u, rfl⟩))
                        refine ⟨⟨q + 1, by go_num, by omega, ⟨_, _, (HX5.out.to (HGU.out _))⟩, ⟨best, ((HW5.out.to (HGU.out _)).inv_ (HNB.out.cast (by omega)))⟩⟩, ?_⟩
                        simp [intOf]; omega
                      have CL1 := cls_call HGU.out hi (fun w _ => rLess_any a ⟨n, letR l, (q : Int), (d : Int)⟩ HVA.out hv w)
                      have CL2 := cls_call HGU.out hi (fun w _ => rLess_any ⟨n, letR l, (q : Int), (d : Int)⟩ b hv HVB.out w)
                      simp only [hval] at CL1 CL2
                      rw [hv] at CV
                      cases hl1 : a.lt ⟨n, letR l, (q : Int), (d : Int)⟩
                      · rw [hl1] at CL1
                        have HNB := hide (best_no HW5.out.inv HCD.out (by rw [hl1]; simp) hv)
                        clear hv hl1 hi CL2
                        go_wp2_with (first | ((with_reducible refine (CV _).mono ?_); rintro e w' ⟨rfl, u, rfl⟩) | ((with_reducible refine (CL1 _).mono ?_); rintro e w' ⟨rfl, u, rfl⟩))
                        refine ⟨⟨q + 1, by go_num, by omega, ⟨_, _, (HX5.out.to (HGU.out _))⟩, ⟨best, ((HW5.out.to (HGU.out _)).inv_ (HNB.out.cast (by omega)))⟩⟩, ?_⟩
                        simp [intOf]; omega
                      cases hl2 : HN.lt ⟨n, letR l, (q : Int), (d : Int)⟩ b
                      · rw [hl1] at CL1
                        rw [hl2] at CL2
                        have HNB := hide (best_no HW5.out.inv HCD.out (by rw [hl2]; simp) hv)
                        clear hv hl1 hl2 hi
                        go_wp2_with (first | ((with_reducible refine (CV _).mono ?_); rintro e w' ⟨rfl, u, rfl⟩) | ((with_reducible refine (CL1 _).mono ?_); rintro e w' ⟨rfl, u, rfl⟩) | ((with_reducible refine (CL2 _).mono ?_); rintro e w' ⟨rfl, u, rfl⟩))
                        refine ⟨⟨q + 1, by go_num, by omega, ⟨_, _, (HX5.out.to (HGU.out _))⟩, ⟨best, ((HW5.out.to (HGU.out _)).inv_ (HNB.out.cast (by omega)))⟩⟩, ?_⟩
                        simp [intOf]; omega
                      rw [hl1] at CL1
                      rw [hl2] at CL2
                      have CGx := cls_call HGU.out hi (fun w _ => rGroup_any ⟨n, letR l, (q : Int), (d : Int)⟩ (by show (0 : Int) ≤ (d : Int); omega) w)
                      simp only [hval] at CGx
                      have z0 := fun u => (HW5.out.to (HGU.out u)).hs.blk.frozen 0
                      have z1 := fun u => (HW5.out.to (HGU.out u)).hs.blk.frozen 1
                      have z2 := fun u => (HW5.out.to (HGU.out u)).hs.blk.frozen 2
                      have z3 := fun u => (HW5.out.to (HGU.out u)).hs.blk.frozen 3
                      have HBV : Hid (best = zeroH ∨ best.valid = true) := by
                        rcases HW5.out.inv with h | h
                        · exact .inl h.1
                        · exact .inr ((lt_iff _ _).1 h.1.1).2.1
                      rcases HBV.out with hz | hbv
                      · subst hz
                        have HNB := hide (best_yes HW5.out.inv HCD.out ⟨hl1, hl2⟩ rfl)
                        clear hv hl1 hl2 hi HBV HRG
                        simp only [zeroH] at s0 s1 s2 s3
                        go_wp2_with (first | ((with_reducible refine (CV _).mono ?_); rintro e w' ⟨rfl, u, rfl⟩) | ((with_reducible refine (CL1 _).mono ?_); rintro e w' ⟨rfl, u, rfl⟩) | ((with_reducible refine (CL2 _).mono ?_); rintro e w' ⟨rfl, u, rfl⟩))
                        refine wp_region_class g (by kernel_rfl) (by kernel_rfl) (HHI.out _ (HGU.out _).drew) ?_
                        repeat (go_big_quiet_step (first | fail))
                        refine wpQuiet_nil ?_
                        intro w7 hw7
                        obtain ⟨u, rfl⟩ := hw7
                        go_wp2_with fail
                        refine ⟨⟨q + 1, by go_num, by omega, ⟨_, _, ((HX5.out.to (HGU.out _)).far4 (x := ⟨n, letR l, (q : Int), (d : Int)⟩) (Nat.ne_of_gt HX3.out))⟩, ⟨⟨n, letR l, (q : Int), (d : Int)⟩, ((HW5.out.to (HGU.out _)).put (x := ⟨n, letR l, (q : Int), (d : Int)⟩) (HNB.out.cast (by omega)))⟩⟩, ?_⟩
                        simp [intOf]; omega
                      have CGb := cls_call HGU.out hi (fun w _ => rGroup_any best (by have := (code_rng hbv); omega) w)
                      have CLb := cls_call HGU.out hi (fun w _ => rLess_any ⟨n, letR l, (q : Int), (d : Int)⟩ best hv hbv w)
                      simp only [hval] at CGb CLb
                      have hbn := ((valid_iff best).1 hbv).1
                      have e5 : (best.n == 0) = false := by rw [beq_eq_false_iff_ne]; omega
                      have HBB : Hid (betterB best ⟨n, letR l, (q : Int), (d : Int)⟩ = (decide (group ⟨n, letR l, (q : Int), (d : Int)⟩ < group best) || (decide (group ⟨n, letR l, (q : Int), (d : Int)⟩ = group best) && HN.lt ⟨n, letR l, (q : Int), (d : Int)⟩ best))) := by show _ = _; unfold betterB; rw [decide_eq_false (by omega), Bool.false_or]
                      have HYES := hide (fun h => best_yes HW5.out.inv HCD.out ⟨hl1, hl2⟩ h)
                      have HKEEP := hide (fun h => best_keep HW5.out.inv HCD.out ⟨hl1, hl2⟩ h)
                      clear hv hl1 hl2 hi HBV HRG hbn hbv
                      generalize group ⟨n, letR l, (q : Int), (d : Int)⟩ = gx at *
                      generalize group best = gb at *
                      generalize HN.lt ⟨n, letR l, (q : Int), (d : Int)⟩ best = lb at *
                      by_cases h1 : gx < gb
                      · have e6 : decide (gx < gb) = true := decide_eq_true h1
                        have HNB := hide (HYES.out (HBB.out.trans (by rw [e6]; rfl)))
                        clear h1 HYES HKEEP HBB
                        go_wp2_with (first | ((with_reducible refine (CV _).mono ?_); rintro e w' ⟨rfl, u, rfl⟩) | ((with_reducible refine (CL1 _).mono ?_); rintro e w' ⟨rfl, u, rfl⟩) | ((with_reducible refine (CL2 _).mono ?_); rintro e w' ⟨rfl, u, rfl⟩))
                        refine wp_region_class g (by kernel_rfl) (by kernel_rfl) (HHI.out _ (HGU.out _).drew) ?_
                        repeat (go_big_quiet_step (first | with_reducible exact CGx _ | with_reducible exact CGb _ | with_reducible exact CLb _))
                        refine wpQuiet_nil ?_
                        intro w7 hw7
                        obtain ⟨u, rfl⟩ := hw7
                        go_wp2_with fail
                        refine ⟨⟨q + 1, by go_num, by omega, ⟨_, _, ((HX5.out.to (HGU.out _)).far4 (x := ⟨n, letR l, (q : Int), (d : Int)⟩) (Nat.ne_of_gt HX3.out))⟩, ⟨⟨n, letR l, (q : Int), (d : Int)⟩, ((HW5.out.to (HGU.out _)).put (x := ⟨n, letR l, (q : Int), (d : Int)⟩) (HNB.out.cast (by omega)))⟩⟩, ?_⟩
                        simp [intOf]; omega
                      have e6 : decide (gx < gb) = false := decide_eq_false h1
                      by_cases h2 : gx = gb
                      · subst h2
                        have e7 : (gx == gx) = true := by simp
                        cases lb
                        · have HNB := hide (HKEEP.out (HBB.out.trans (by rw [e6]; simp)))
                          clear h1 HYES HKEEP HBB
                          go_wp2_with (first | ((with_reducible refine (CV _).mono ?_); rintro e w' ⟨rfl, u, rfl⟩) | ((with_reducible refine (CL1 _).mono ?_); rintro e w' ⟨rfl, u, rfl⟩) | ((with_reducible refine (CL2 _).mono ?_); rintro e w' ⟨rfl, u, rfl⟩))
                          refine wp_region_class g (by kernel_rfl) (by kernel_rfl) (HHI.out _ (HGU.out _).drew) ?_
                          repeat (go_big_quiet_step (first | with_reducible exact CGx _ | with_reducible exact CGb _ | with_reducible exact CLb _))
                          refine wpQuiet_nil ?_
                          intro w7 hw7
                          obtain ⟨u, rfl⟩ := hw7
                          go_wp2_with fail
                          refine ⟨⟨q + 1, by go_num, by omega, ⟨_, _, (HX5.out.to (HGU.out _))⟩, ⟨best, ((HW5.out.to (HGU.out _)).inv_ (HNB.out.cast (by omega)))⟩⟩, ?_⟩
                          simp [intOf]; omega
                        · have HNB := hide (HYES.out (HBB.out.trans (by rw [e6]; simp)))
                          clear h1 HYES HKEEP HBB
                          go_wp2_with (first | ((with_reducible refine (CV _).mono ?_); rintro e w' ⟨rfl, u, rfl⟩) | ((with_reducible refine (CL1 _).mono ?_); rintro e w' ⟨rfl, u, rfl⟩) | ((with_reducible refine (CL2 _).mono ?_); rintro e w' ⟨rfl, u, rfl⟩))
                          refine wp_region_class g (by kernel_rfl) (by kernel_rfl) (HHI.out _ (HGU.out _).drew) ?_
                          repeat (go_big_quiet_step (first | with_reducible exact CGx _ | with_reducible exact CGb _ | with_reducible exact CLb _))
                          refine wpQuiet_nil ?_
                          intro w7 hw7
                          obtain ⟨u, rfl⟩ := hw7
                          go_wp2_with fail
                          refine ⟨⟨q + 1, by go_num, by omega, ⟨_, _, ((HX5.out.to (HGU.out _)).far4 (x := ⟨n, letR l, (q : Int), (d : Int)⟩) (Nat.ne_of_gt HX3.out))⟩, ⟨⟨n, letR l, (q : Int), (d : Int)⟩, ((HW5.out.to (HGU.out _)).put (x := ⟨n, letR l, (q : Int), (d : Int)⟩) (HNB.out.cast (by omega)))⟩⟩, ?_⟩
                          simp [intOf]; omega
                      · have e7 : (gx == gb) = false := by rw [beq_eq_false_iff_ne]; exact h2
                        have HNB := hide (HKEEP.out (HBB.out.trans (by rw [e6, decide_eq_false h2]; simp)))
                        clear h1 h2 HYES HKEEP HBB
                        go_wp2_with (first | ((with_reducible refine (CV _).mono ?_); rintro e w' ⟨rfl, u, rfl⟩) | ((with_reducible refine (CL1 _).mono ?_); rintro e w' ⟨rfl, u, rfl⟩) | ((with_reducible refine (CL2 _).mono ?_); rintro e w' ⟨rfl, u, rfl⟩))
                        refine wp_region_class g (by kernel_rfl) (by kernel_rfl) (HHI.out _ (HGU.out _).drew) ?_
                        repeat (go_big_quiet_step (first | with_reducible exact CGx _ | with_reducible exact CGb _ | with_reducible exact CLb _))
                        refine wpQuiet_nil ?_
                        intro w7 hw7
                        obtain ⟨u, rfl⟩ := hw7
                        go_wp2_with fail
                        refine ⟨⟨q + 1, by go_num, by omega, ⟨_, _, (HX5.out.to (HGU.out _))⟩, ⟨best, ((HW5.out.to (HGU.out _)).inv_ (HNB.out.cast (by omega)))⟩⟩, ?_⟩
                        simp [intOf]; omega
                    · obtain rfl : q = d + 1 := by omega
                      have e4 : decide (((d + 1 : Nat) : Int) ≤ (d : Int)) = false := decide_eq_false (by omega)
                      have e4' : decide ((d : Int) + 1 ≤ (d : Int)) = false := decide_eq_false (by omega)
                      have HWn : Hid (∃ best, BtW a b w S wr best ((n * 27 + (l : Int)) * 100 + ((d + 1 : Nat) : Int) * 10)) := by
                        obtain ⟨bb, hb⟩ := HWx.out
                        exact ⟨bb, hb.inv_ (best_row hl hd9 hb.inv)⟩
                      clear HWx
                      go_wp2_with fail
                      refine ⟨⟨d + 1, by go_num, by omega, HXx.out, HWn.out⟩, ?_⟩
                      simp [intOf]; omega
                · obtain rfl : d = 10 := by omega
                  have e3 : decide (((10 : Nat) : Int) ≤ 9) = false := by decide
                  have HWn : Hid (∃ best, BtW a b w S wr best (n * 2700 + ((l + 1 : Nat) : Int) * 100)) := by
                    obtain ⟨bb, hb⟩ := HWx.out
                    exact ⟨bb, hb.inv_ (hb.inv.cast (by omega))⟩
                  clear HWx
                  go_wp2_with fail
                  refine ⟨⟨l + 1, by go_num, by omega, HWn.out⟩, ?_⟩
                  have hml := HML.out
                  simp [intOf]; omega
          · obtain rfl : l = 27 := by omega
            have e3 : decide (((27 : Nat) : Int) ≤ 26) = false := by decide
            have HWn : Hid (∃ best, BtW a b w S wr best ((n + 1) * 2700)) := by
              obtain ⟨bb, hb⟩ := HWx.out
              exact ⟨bb, hb.inv_ (hb.inv.cast (by omega))⟩
            clear HWx
            go_wp2_with fail
            refine ⟨⟨n + 1, by go_num, by omega, HWn.out⟩, ?_⟩
            simp [intOf]; omega
      · have e2 : decide (n ≤ a.n + 1) = false := decide_eq_false hn
        have HEX : Hid (a.n + 1 < n ∨ 9999 < n) := .inl (by omega)
        clear hn h9 hn1 hn2 hn3
        obtain ⟨best, HWb⟩ := HWx.out
        have HEN := hide (best_end HVA.out HVB.out HWb.inv (fun x hx hxn => by
          obtain ⟨r1, r2, r3, r4, r5, r6, r7⟩ := code_rng hx
          unfold codeH
          have := HEX.out
          omega))
        obtain ⟨s0, s1, s2, s3⟩ := HWb.hs.facts
        obtain ⟨r0, r1, r2, r3⟩ := HWb.hr.facts
        have f0 := HWb.hr.blk.frozen 0
        have f1 := HWb.hr.blk.frozen 1
        have f2 := HWb.hr.blk.frozen 2
        have f3 := HWb.hr.blk.frozen 3
        simp only [zeroH] at r0 r1 r2 r3
        have HW := hide HWb
        clear HWx HWb
        rcases HEN.out with ⟨hz, hbn⟩ | ⟨hbv, hbn⟩
        · subst hz
          have HV : Hid (betV a b = zeroH ∧ betE a b = 10) := by show _ ∧ _; unfold betV betE; rw [HC0.out, HLT.out, hbn]; exact ⟨rfl, rfl⟩
          clear hbn HEN HEX
          simp only at s0 s1 s2 s3
          go_wp2_with fail
          have hbk : Blk ((((wr.setCell ⟨w.heap.size + 2, 0, none⟩ (.int .i64 zeroH.n)).setCell ⟨w.heap.size + 2, 1, none⟩ (.string ⟨zeroH.l.toArray⟩)).setCell ⟨w.heap.size + 2, 2, none⟩ (.int .i64 zeroH.num)).setCell ⟨w.heap.size + 2, 3, none⟩ (.int .i64 zeroH.den)) (w.heap.size + 2) 23 (hCells zeroH) := ((((HW.out.hr.blk.set_ 0 _).set_ 1 _).set_ 2 _).set_ 3 _)
          refine bodyPost_ret (results_cell_tmp (p := 4) (u := 5) rfl _ _ (w.heap.size + 2) 23 _ _ rfl hbk Tryd.underlying23 rfl (by kernel_rfl)) rfl ⟨ret_hn HV.out.1.symm HV.out.2.symm, ?_⟩
          exact ((((HW.out.bel.setCell (p := ⟨w.heap.size + 2, 0, none⟩) (Nat.le_add_right _ _) _).setCell (p := ⟨w.heap.size + 2, 1, none⟩) (Nat.le_add_right _ _) _).setCell (p := ⟨w.heap.size + 2, 2, none⟩) (Nat.le_add_right _ _) _).setCell (p := ⟨w.heap.size + 2, 3, none⟩) (Nat.le_add_right _ _) _)
        · have HV : Hid (betV a b = best ∧ betE a b = 0) := by show _ ∧ _; unfold betV betE; rw [HC0.out, HLT.out, hbn]; exact ⟨rfl, rfl⟩
          have hb1 := ((valid_iff best).1 hbv).1
          have e5 : (best.n == 0) = false := by rw [beq_eq_false_iff_ne]; omega
          clear hbn hbv HEN HEX hb1
          go_wp2_with fail
          have hbk : Blk ((((wr.setCell ⟨w.heap.size + 2, 0, none⟩ (.int .i64 best.n)).setCell ⟨w.heap.size + 2, 1, none⟩ (.string ⟨best.l.toArray⟩)).setCell ⟨w.heap.size + 2, 2, none⟩ (.int .i64 best.num)).setCell ⟨w.heap.size + 2, 3, none⟩ (.int .i64 best.den)) (w.heap.size + 2) 23 (hCells best) := ((((HW.out.hr.blk.set_ 0 _).set_ 1 _).set_ 2 _).set_ 3 _)
          refine bodyPost_ret (results_cell_tmp (p := 4) (u := 5) rfl _ _ (w.heap.size + 2) 23 _ _ rfl hbk Tryd.underlying23 rfl (by kernel_rfl)) rfl ⟨ret_hn HV.out.1.symm HV.out.2.symm, ?_⟩
          exact ((((HW.out.bel.setCell (p := ⟨w.heap.size + 2, 0, none⟩) (Nat.le_add_right _ _) _).setCell (p := ⟨w.heap.size + 2, 1, none⟩) (Nat.le_add_right _ _) _).setCell (p := ⟨w.heap.size + 2, 2, none⟩) (Nat.le_add_right _ _) _).setCell (p := ⟨w.heap.size + 2, 3, none⟩) (Nat.le_add_right _ _) _)
    · have e1 : decide (n ≤ 9999) = false := decide_eq_false h9
      have HEX : Hid (a.n + 1 < n ∨ 9999 < n) := .inr (by omega)
      clear h9 hn1 hn2 hn3 hA
      obtain ⟨best, HWb⟩ := HWx.out
      have HEN := hide (best_end HVA.out HVB.out HWb.inv (fun x hx hxn => by
        obtain ⟨r1, r2, r3, r4, r5, r6, r7⟩ := code_rng hx
        unfold codeH
        have := HEX.out
        omega))
      obtain ⟨s0, s1, s2, s3⟩ := HWb.hs.facts
      obtain ⟨r0, r1, r2, r3⟩ := HWb.hr.facts
      have f0 := HWb.hr.blk.frozen 0
      have f1 := HWb.hr.blk.frozen 1
      have f2 := HWb.hr.blk.frozen 2
      have f3 := HWb.hr.blk.frozen 3
      simp only [zeroH] at r0 r1 r2 r3
      have HW := hide HWb
      clear HWx HWb
      rcases HEN.out with ⟨hz, hbn⟩ | ⟨hbv, hbn⟩
      · subst hz
        have HV : Hid (betV a b = zeroH ∧ betE a b = 10) := by show _ ∧ _; unfold betV betE; rw [HC0.out, HLT.out, hbn]; exact ⟨rfl, rfl⟩
        clear hbn HEN HEX
        simp only at s0 s1 s2 s3
        go_wp2_with fail
        have hbk : Blk ((((wr.setCell ⟨w.heap.size + 2, 0, none⟩ (.int .i64 zeroH.n)).setCell ⟨w.heap.size + 2, 1, none⟩ (.string ⟨zeroH.l.toArray⟩)).setCell ⟨w.heap.size + 2, 2, none⟩ (.int .i64 zeroH.num)).setCell ⟨w.heap.size + 2, 3, none⟩ (.int .i64 zeroH.den)) (w.heap.size + 2) 23 (hCells zeroH) := ((((HW.out.hr.blk.set_ 0 _).set_ 1 _).set_ 2 _).set_ 3 _)
        refine bodyPost_ret (results_cell_tmp (p := 4) (u := 5) rfl _ _ (w.heap.size + 2) 23 _ _ rfl hbk Tryd.underlying23 rfl (by kernel_rfl)) rfl ⟨ret_hn HV.out.1.symm HV.out.2.symm, ?_⟩
        exact ((((HW.out.bel.setCell (p := ⟨w.heap.size + 2, 0, none⟩) (Nat.le_add_right _ _) _).setCell (p := ⟨w.heap.size + 2, 1, none⟩) (Nat.le_add_right _ _) _).setCell (p := ⟨w.heap.size + 2, 2, none⟩) (Nat.le_add_right _ _) _).setCell (p := ⟨w.heap.size + 2, 3, none⟩) (Nat.le_add_right _ _) _)
      · have HV : Hid (betV a b = best ∧ betE a b = 0) := by show _ ∧ _; unfold betV betE; rw [HC0.out, HLT.out, hbn]; exact ⟨rfl, rfl⟩
        have hb1 := ((valid_iff best).1 hbv).1
        have e5 : (best.n == 0) = false := by rw [beq_eq_false_iff_ne]; omega
        clear hbn hbv HEN HEX hb1
        go_wp2_with fail
        have hbk : Blk ((((wr.setCell ⟨w.heap.size + 2, 0, none⟩ (.int .i64 best.n)).setCell ⟨w.heap.size + 2, 1, none⟩ (.string ⟨best.l.toArray⟩)).setCell ⟨w.heap.size + 2, 2, none⟩ (.int .i64 best.num)).setCell ⟨w.heap.size + 2, 3, none⟩ (.int .i64 best.den)) (w.heap.size + 2) 23 (hCells best) := ((((HW.out.hr.blk.set_ 0 _).set_ 1 _).set_ 2 _).set_ 3 _)
        refine bodyPost_ret (results_cell_tmp (p := 4) (u := 5) rfl _ _ (w.heap.size + 2) 23 _ _ rfl hbk Tryd.underlying23 rfl (by kernel_rfl)) rfl ⟨ret_hn HV.out.1.symm HV.out.2.symm, ?_⟩
        exact ((((HW.out.bel.setCell (p := ⟨w.heap.size + 2, 0, none⟩) (Nat.le_add_right _ _) _).setCell (p := ⟨w.heap.size + 2, 1, none⟩) (Nat.le_add_right _ _) _).setCell (p := ⟨w.heap.size + 2, 2, none⟩) (Nat.le_add_right _ _) _).setCell (p := ⟨w.heap.size + 2, 3, none⟩) (Nat.le_add_right _ _) _)
end Go.Proofs.YtabphhclnboknaaDoor
