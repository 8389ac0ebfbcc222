/- Walks of package number: Between. -/
import Derived.Test.YtabphhclnboknaaDoorW8
set_option linter.unusedVariables false
set_option linter.unusedSimpArgs false
namespace Go.Proofs.YtabphhclnboknaaDoor
open Go.RowKit

def zeroH : HN := ⟨0, [], 0, 0⟩
/-- what Between returns -/
def betV (a b : HN) : HN := if a.lt b then (between a b).getD zeroH else zeroH
def betE (a b : HN) : Int := if cmpE a b = 0 then (if a.lt b then (if (between a b).isSome then 0 else 10) else 13) else cmpE a b
theorem hNew3 (w : World) (a b c : HN) : HBox (((w.alloc (.cells #[.int .i64 a.n, .string ⟨a.l.toArray⟩, .int .i64 a.num, .int .i64 a.den] 23)).alloc (.cells #[.int .i64 b.n, .string ⟨b.l.toArray⟩, .int .i64 b.num, .int .i64 b.den] 23)).alloc (.cells #[.int .i64 c.n, .string ⟨c.l.toArray⟩, .int .i64 c.num, .int .i64 c.den] 23)) w.heap.size a ∧
    HBox (((w.alloc (.cells #[.int .i64 a.n, .string ⟨a.l.toArray⟩, .int .i64 a.num, .int .i64 a.den] 23)).alloc (.cells #[.int .i64 b.n, .string ⟨b.l.toArray⟩, .int .i64 b.num, .int .i64 b.den] 23)).alloc (.cells #[.int .i64 c.n, .string ⟨c.l.toArray⟩, .int .i64 c.num, .int .i64 c.den] 23)) (w.heap.size + 1) b ∧
    HBox (((w.alloc (.cells #[.int .i64 a.n, .string ⟨a.l.toArray⟩, .int .i64 a.num, .int .i64 a.den] 23)).alloc (.cells #[.int .i64 b.n, .string ⟨b.l.toArray⟩, .int .i64 b.num, .int .i64 b.den] 23)).alloc (.cells #[.int .i64 c.n, .string ⟨c.l.toArray⟩, .int .i64 c.num, .int .i64 c.den] 23)) (w.heap.size + 2) c := by
  obtain ⟨h1, h2⟩ := hNew2 w a b
  refine ⟨⟨h1.blk.alloc _⟩, ⟨h2.blk.alloc _⟩, ?_⟩
  have := HBox.new ((w.alloc (.cells #[.int .i64 a.n, .string ⟨a.l.toArray⟩, .int .i64 a.num, .int .i64 a.den] 23)).alloc (.cells #[.int .i64 b.n, .string ⟨b.l.toArray⟩, .int .i64 b.num, .int .i64 b.den] 23)) c
  simpa using this
theorem bet_err {a b : HN} (h : ¬ cmpE a b = 0) : betV a b = zeroH ∧ betE a b = cmpE a b := by
  have : a.lt b = false := by rw [← cmp_lt]; simp [h]
  unfold betV betE
  rw [this, if_neg h]; exact ⟨rfl, rfl⟩
theorem bet_order {a b : HN} (h : cmpE a b = 0) (h' : 0 ≤ cmpV a b) : betV a b = zeroH ∧ betE a b = 13 := by
  have : a.lt b = false := by rw [← cmp_lt]; simp; intro _; exact h'
  unfold betV betE
  rw [this, if_pos h]; exact ⟨rfl, rfl⟩
-- LEMMAS
def BtI (w wr : World) (a b : HN) (g : Nat) (t : Value) : Prop := ∃ k : Nat, k ≤ 4 ∧ t = .int .i64 k ∧ (∀ j, j < k → (gs a j).lt b = false) ∧ Below w.heap.size w wr ∧ HBox wr w.heap.size a ∧ HBox wr (w.heap.size + 1) b ∧ HBox wr (w.heap.size + 2) zeroH ∧ Blk wr g 54 #[.func (.func 37) #[] #[.pointer (some ⟨w.heap.size, 0, none⟩)], .func (.func 38) #[] #[.pointer (some ⟨w.heap.size, 0, none⟩)], .func (.func 40) #[] #[.pointer (some ⟨w.heap.size, 0, none⟩)], .func (.func 42) #[] #[.pointer (some ⟨w.heap.size, 0, none⟩)]] ∧ w.heap.size + 2 < g
theorem lt_succ {P : Nat → Bool} {k : Nat} (h : ∀ j, j < k → P j = false) (hk : P k = false) : ∀ j, j < k + 1 → P j = false := fun j hj => by
  rcases Nat.lt_or_ge j k with h1 | h1
  · exact h j h1
  · obtain rfl : j = k := by omega
    exact hk
theorem gs_letter {a : HN} (ha : a.valid = true) (i : Nat) : letterB (gs a i).l = true := by
  unfold gs
  split
  · exact (cand0 ha).letter
  · split
    · exact (cand1 ha).letter
    · split
      · exact (cand2 ha).letter
      · exact (cand3 ha).letter
theorem gs_fit {a : HN} {i : Nat} (ha : a.valid = true) : (gs a i).fit := by
  have := letter_size (gs_letter ha i)
  unfold HN.fit maxLen; omega
theorem bet_at {a b : HN} {k : Nat} (h : a.lt b = true) (hno : ∀ j, j < k → (gs a j).lt b = false) (hk : (gs a k).lt b = true) (h4 : k < 4) : betV a b = gs a k ∧ betE a b = 0 := by
  have hc : cmpE a b = 0 := by have := cmp_lt a b; rw [h] at this; simp at this; exact this.1
  have hb : between a b = some (gs a k) := by
    match k, h4 with
    | 0, _ => unfold between; rw [if_pos (show (g0 a).lt b = true from hk)]; rfl
    | 1, _ => unfold between; rw [if_neg (by rw [show (g0 a).lt b = false from hno 0 (by omega)]; simp), if_pos (show (g1 a).lt b = true from hk)]; rfl
    | 2, _ => unfold between; rw [if_neg (by rw [show (g0 a).lt b = false from hno 0 (by omega)]; simp), if_neg (by rw [show (g1 a).lt b = false from hno 1 (by omega)]; simp), if_pos (show (g2 a).lt b = true from hk)]; rfl
    | 3, _ => unfold between; rw [if_neg (by rw [show (g0 a).lt b = false from hno 0 (by omega)]; simp), if_neg (by rw [show (g1 a).lt b = false from hno 1 (by omega)]; simp), if_neg (by rw [show (g2 a).lt b = false from hno 2 (by omega)]; simp), if_pos (show (g3 a).lt b = true from hk)]; rfl
  unfold betV betE
  rw [h, hb, if_pos hc]; exact ⟨rfl, rfl⟩
theorem bet_none {a b : HN} (h : a.lt b = true) (hno : ∀ j, j < 4 → (gs a j).lt b = false) : betV a b = zeroH ∧ betE a b = 10 := by
  have hc : cmpE a b = 0 := by have := cmp_lt a b; rw [h] at this; simp at this; exact this.1
  have hb : between a b = none := by
    unfold between
    rw [if_neg (by rw [show (g0 a).lt b = false from hno 0 (by omega)]; simp), if_neg (by rw [show (g1 a).lt b = false from hno 1 (by omega)]; simp), if_neg (by rw [show (g2 a).lt b = false from hno 2 (by omega)]; simp), if_neg (by rw [show (g3 a).lt b = false from hno 3 (by omega)]; simp)]
  unfold betV betE
  rw [h, hb, if_pos hc]; exact ⟨rfl, rfl⟩
-- END LEMMAS
set_option maxHeartbeats 2000000 in
theorem Between_any (a b : HN) (w : World) (ha : a.fit) (hb : b.fit) : Calls Tryd.prog 17 #[hval a, hval b] w fun e w' => e = .returned (.tuple #[hval (betV a b), .int .i64 (betE a b)]) ∧ Below w.heap.size w w' := by
  have HLA := hide ha
  have HLB := hide hb
  have HN3 := hide (hNew3 w a b zeroH)
  clear ha hb
  have HB3 := hide ((((Below.refl w.heap.size w).alloc (Nat.le_refl _) (.cells #[.int .i64 a.n, .string ⟨a.l.toArray⟩, .int .i64 a.num, .int .i64 a.den] 23)).alloc (by simp) (.cells #[.int .i64 b.n, .string ⟨b.l.toArray⟩, .int .i64 b.num, .int .i64 b.den] 23)).alloc (by simp <;> omega) (.cells #[.int .i64 0, .string ⟨#[]⟩, .int .i64 0, .int .i64 0] 23))
  cases he : decide (cmpE a b = 0)
  · have hn := of_decide_eq_false he
    have HV := hide (bet_err hn)
    clear he
    go_enter Tryd.func17, Tryd.ntmps17
    unfold hval
    go_wp2_with fail
    refine (Compare_any a b _ HLA.out HLB.out).mono ?_
    rintro e w1 ⟨rfl, hb⟩
    have HB1 := hide (HB3.out.trans (hb.mono HB3.out.size))
    have HX1 := hide (HN3.out.1.below hb (by simp <;> omega))
    have HY1 := hide (HN3.out.2.1.below hb (by simp <;> omega))
    have HR1 := hide (HN3.out.2.2.below hb (by simp))
    have HS1 : Hid (w.heap.size + 2 < w1.heap.size) := by have := hb.size; simp at this; exact this
    clear hb HN3 HB3
    generalize cmpE a b = ce at *
    have hn2 : (ce == 0) = false := by simpa using hn
    obtain ⟨y0, y1, y2, y3⟩ := HR1.out.facts
    have f0 := HR1.out.blk.frozen 0
    have f1 := HR1.out.blk.frozen 1
    have f2 := HR1.out.blk.frozen 2
    have f3 := HR1.out.blk.frozen 3
    go_wp2_with fail
    have HZ := hide (HBox.mk ((((HR1.out.blk.set_ 0 (.int .i64 0)).set_ 1 (.string ⟨#[]⟩)).set_ 2 (.int .i64 0)).set_ 3 (.int .i64 0)) : HBox _ _ ⟨0, [], 0, 0⟩)
    have HW := hide ((((HB1.out.setCell (p := ⟨w.heap.size + 2, 0, none⟩) (by simp) (.int .i64 0)).setCell (p := ⟨w.heap.size + 2, 1, none⟩) (by simp) (.string ⟨#[]⟩)).setCell (p := ⟨w.heap.size + 2, 2, none⟩) (by simp) (.int .i64 0)).setCell (p := ⟨w.heap.size + 2, 3, none⟩) (by simp) (.int .i64 0))
    generalize (((w1.setCell ⟨w.heap.size + 2, 0, none⟩ (.int .i64 0)).setCell ⟨w.heap.size + 2, 1, none⟩ (.string ⟨#[]⟩)).setCell ⟨w.heap.size + 2, 2, none⟩ (.int .i64 0)).setCell ⟨w.heap.size + 2, 3, none⟩ (.int .i64 0) = w8 at *
    refine bodyPost_ret (results_cell_tmp rfl _ _ (w.heap.size + 2) 23 _ _ rfl HZ.out.blk Tryd.underlying23 rfl (by kernel_rfl)) rfl ?_
    exact ⟨ret_hn HV.out.1.symm HV.out.2.symm, HW.out⟩
  · have h0 := of_decide_eq_true he
    clear he
    by_cases hc : 0 ≤ cmpV a b
    · have HV := hide (bet_order h0 hc)
      go_enter Tryd.func17, Tryd.ntmps17
      unfold hval
      go_wp2_with fail
      refine (Compare_any a b _ HLA.out HLB.out).mono ?_
      rintro e w1 ⟨rfl, hb⟩
      have HB1 := hide (HB3.out.trans (hb.mono HB3.out.size))
      have HX1 := hide (HN3.out.1.below hb (by simp <;> omega))
      have HY1 := hide (HN3.out.2.1.below hb (by simp <;> omega))
      have HR1 := hide (HN3.out.2.2.below hb (by simp))
      have HS1 : Hid (w.heap.size + 2 < w1.heap.size) := by have := hb.size; simp at this; exact this
      clear hb HN3 HB3
      rw [h0]
      generalize cmpV a b = cv at *
      obtain ⟨y0, y1, y2, y3⟩ := HR1.out.facts
      have f0 := HR1.out.blk.frozen 0
      have f1 := HR1.out.blk.frozen 1
      have f2 := HR1.out.blk.frozen 2
      have f3 := HR1.out.blk.frozen 3
      go_wp2_with fail
      have HZ := hide (HBox.mk ((((HR1.out.blk.set_ 0 (.int .i64 0)).set_ 1 (.string ⟨#[]⟩)).set_ 2 (.int .i64 0)).set_ 3 (.int .i64 0)) : HBox _ _ ⟨0, [], 0, 0⟩)
      have HW := hide ((((HB1.out.setCell (p := ⟨w.heap.size + 2, 0, none⟩) (by simp) (.int .i64 0)).setCell (p := ⟨w.heap.size + 2, 1, none⟩) (by simp) (.string ⟨#[]⟩)).setCell (p := ⟨w.heap.size + 2, 2, none⟩) (by simp) (.int .i64 0)).setCell (p := ⟨w.heap.size + 2, 3, none⟩) (by simp) (.int .i64 0))
      generalize (((w1.setCell ⟨w.heap.size + 2, 0, none⟩ (.int .i64 0)).setCell ⟨w.heap.size + 2, 1, none⟩ (.string ⟨#[]⟩)).setCell ⟨w.heap.size + 2, 2, none⟩ (.int .i64 0)).setCell ⟨w.heap.size + 2, 3, none⟩ (.int .i64 0) = w8 at *
      refine bodyPost_ret (results_cell_tmp rfl _ _ (w.heap.size + 2) 23 _ _ rfl HZ.out.blk Tryd.underlying23 rfl (by kernel_rfl)) rfl ?_
      exact ⟨ret_hn HV.out.1.symm HV.out.2.symm, HW.out⟩
    · have HC := hide (And.intro h0 (show cmpV a b < 0 by omega))
      go_enter Tryd.func17, Tryd.ntmps17
      unfold hval
      go_wp2_with fail
      refine (Compare_any a b _ HLA.out HLB.out).mono ?_
      rintro e w1 ⟨rfl, hb⟩
      have HB1 := hide (HB3.out.trans (hb.mono HB3.out.size))
      have HX1 := hide (HN3.out.1.below hb (by simp <;> omega))
      have HY1 := hide (HN3.out.2.1.below hb (by simp <;> omega))
      have HR1 := hide (HN3.out.2.2.below hb (by simp))
      have HS1 : Hid (w.heap.size + 2 < w1.heap.size) := by have := hb.size; simp at this; exact this
      clear hb HN3 HB3
-- LOOP
      rw [h0]
      have hlt : a.lt b = true := by rw [← cmp_lt]; simp; exact ⟨h0, by omega⟩
      have HLT := hide hlt
      have HAV := hide ((lt_iff _ _).1 hlt).1
      generalize cmpV a b = cv at *
      clear hlt h0
      have HX2 := hide (HBox.mk (HX1.out.blk.alloc (.cells #[.func (.func 37) #[] #[.pointer (some ⟨w.heap.size, 0, none⟩)], .func (.func 38) #[] #[.pointer (some ⟨w.heap.size, 0, none⟩)], .func (.func 40) #[] #[.pointer (some ⟨w.heap.size, 0, none⟩)], .func (.func 42) #[] #[.pointer (some ⟨w.heap.size, 0, none⟩)]] 54)))
      have HY2 := hide (HBox.mk (HY1.out.blk.alloc (.cells #[.func (.func 37) #[] #[.pointer (some ⟨w.heap.size, 0, none⟩)], .func (.func 38) #[] #[.pointer (some ⟨w.heap.size, 0, none⟩)], .func (.func 40) #[] #[.pointer (some ⟨w.heap.size, 0, none⟩)], .func (.func 42) #[] #[.pointer (some ⟨w.heap.size, 0, none⟩)]] 54)))
      have HR2 := hide (HBox.mk (h := zeroH) (HR1.out.blk.alloc (.cells #[.func (.func 37) #[] #[.pointer (some ⟨w.heap.size, 0, none⟩)], .func (.func 38) #[] #[.pointer (some ⟨w.heap.size, 0, none⟩)], .func (.func 40) #[] #[.pointer (some ⟨w.heap.size, 0, none⟩)], .func (.func 42) #[] #[.pointer (some ⟨w.heap.size, 0, none⟩)]] 54)))
      have HB2 := hide (HB1.out.alloc HB1.out.size (.cells #[.func (.func 37) #[] #[.pointer (some ⟨w.heap.size, 0, none⟩)], .func (.func 38) #[] #[.pointer (some ⟨w.heap.size, 0, none⟩)], .func (.func 40) #[] #[.pointer (some ⟨w.heap.size, 0, none⟩)], .func (.func 42) #[] #[.pointer (some ⟨w.heap.size, 0, none⟩)]] 54))
      have HF2 := hide (Blk.new w1 54 #[.func (.func 37) #[] #[.pointer (some ⟨w.heap.size, 0, none⟩)], .func (.func 38) #[] #[.pointer (some ⟨w.heap.size, 0, none⟩)], .func (.func 40) #[] #[.pointer (some ⟨w.heap.size, 0, none⟩)], .func (.func 42) #[] #[.pointer (some ⟨w.heap.size, 0, none⟩)]])
      have HS2 : Hid (w.heap.size + 2 < w1.heap.size) := HS1.out
      go_wp2_with fail
      clear HX1 HY1 HR1 HB1 HS1
      go_loopw [36] (fun t wr => BtI w wr a b w1.heap.size t) (fun t _ => 4 - (intOf t).toNat)
      case atStart => exact ⟨0, by omega, rfl, fun j hj => by omega, HB2.out, HX2.out, HY2.out, HR2.out, HF2.out, HS2.out⟩
      case round =>
        clear HB2 HX2 HY2 HR2 HF2
        obtain ⟨k, hk, rfl, hno, hb, hx, hy, hr, hf, hs⟩ := hrel
        have HNO := hide hno
        have HB3 := hide hb
        have HX3 := hide hx
        have HY3 := hide hy
        have HR3 := hide hr
        have HF3 := hide hf
        have HS3 := hide hs
        have HS3b : Hid (w1.heap.size < wr.heap.size) := hf.lt
        clear hno hb hx hy hr hf hs
        match k, hk with
        | 0, _ =>
          have z := HF3.out.cell 0
          go_wp2_with fail
          refine (clo1_any a w.heap.size _ HAV.out HX3.out).mono ?_
          have hfit := hide (gs_fit (i := 0) HAV.out)
          obtain ⟨x, hxx⟩ : ∃ x, g0 a = x := ⟨_, rfl⟩
          have HXX := hide (show gs a 0 = x from hxx)
          rw [hxx]
          clear hxx z
          rintro e w4 ⟨rfl, hb⟩
          have HB4 := hide ((HB3.out.trans (hb.mono HB3.out.size)).alloc (by have := HB3.out.size; have := hb.size; omega) (.cells #[.int .i64 x.n, .string ⟨x.l.toArray⟩, .int .i64 x.num, .int .i64 x.den] 23))
          have HX4 := hide (HBox.mk ((HX3.out.below hb (by have := HS3.out; have := HS3b.out; omega)).blk.alloc (.cells #[.int .i64 x.n, .string ⟨x.l.toArray⟩, .int .i64 x.num, .int .i64 x.den] 23)))
          have HY3b := hide (HY3.out.below hb (by have := HS3.out; have := HS3b.out; omega))
          have HY4 := hide (HBox.mk (HY3b.out.blk.alloc (.cells #[.int .i64 x.n, .string ⟨x.l.toArray⟩, .int .i64 x.num, .int .i64 x.den] 23)))
          have HR4 := hide (HBox.mk (h := zeroH) ((HR3.out.below hb (by have := HS3.out; have := HS3b.out; omega)).blk.alloc (.cells #[.int .i64 x.n, .string ⟨x.l.toArray⟩, .int .i64 x.num, .int .i64 x.den] 23)))
          have HF4 := hide ((HF3.out.below hb HS3b.out).alloc (.cells #[.int .i64 x.n, .string ⟨x.l.toArray⟩, .int .i64 x.num, .int .i64 x.den] 23))
          have HN4 := hide (HBox.new w4 x)
          have HS4 : Hid (w1.heap.size < w4.heap.size) := by have := hb.size; have := HS3b.out; simp only [Hid]; omega
          obtain ⟨y0, y1, y2, y3⟩ := HY3b.out.facts
          have hl1 : w.heap.size + 1 < w4.heap.size := by have := HS3.out; have := HS4.out; omega
          have hl2 : w.heap.size + 1 ≠ w4.heap.size := by omega
          clear hb HB3 HX3 HY3 HR3 HF3 HS3b
          unfold hval
          go_wp2_with fail
          refine (Compare_any x b _ (by rw [← HXX.out]; exact hfit.out) HLB.out).mono ?_
          rintro e w5 ⟨rfl, hb⟩
          have HB5 := hide (HB4.out.trans (hb.mono HB4.out.size))
          have HX5 := hide (HX4.out.below hb (by have := HS3.out; have := HS4.out; simp; omega))
          have HY5 := hide (HY4.out.below hb (by have := HS3.out; have := HS4.out; simp; omega))
          have HR5 := hide (HR4.out.below hb (by have := HS3.out; have := HS4.out; simp; omega))
          have HF5 := hide (HF4.out.below hb (by have := HS4.out; simp; omega))
          have HN5 := hide (HN4.out.below hb (by simp))
          clear hb HB4 HX4 HY4 HY3b HR4 HF4 HN4 y0 y1 y2 y3 hl1 hl2
          have HCL := hide (cmp_lt x b)
          generalize cmpE x b = ce at HCL ⊢
          generalize cmpV x b = cx at HCL ⊢
          by_cases hce : ce = 0
          · by_cases hcx : cx < 0
            · have HV := hide (bet_at (k := 0) HLT.out HNO.out (by rw [HXX.out, ← HCL.out]; simp [hce, hcx]) (by omega))
              rw [HXX.out] at HV
              obtain ⟨x0, x1, x2, x3⟩ := HN5.out.facts
              have f0 := HR5.out.blk.frozen 0
              have f1 := HR5.out.blk.frozen 1
              have f2 := HR5.out.blk.frozen 2
              have f3 := HR5.out.blk.frozen 3
              obtain ⟨y0, y1, y2, y3⟩ := HR5.out.facts
              rw [hce]
              clear hce
              go_wp2_with fail
              have HZ := hide (HBox.mk ((((HR5.out.blk.set_ 0 (.int .i64 x.n)).set_ 1 (.string ⟨x.l.toArray⟩)).set_ 2 (.int .i64 x.num)).set_ 3 (.int .i64 x.den)) : HBox _ _ ⟨x.n, x.l, x.num, x.den⟩)
              have HW := hide ((((HB5.out.setCell (p := ⟨w.heap.size + 2, 0, none⟩) (by simp) (.int .i64 x.n)).setCell (p := ⟨w.heap.size + 2, 1, none⟩) (by simp) (.string ⟨x.l.toArray⟩)).setCell (p := ⟨w.heap.size + 2, 2, none⟩) (by simp) (.int .i64 x.num)).setCell (p := ⟨w.heap.size + 2, 3, none⟩) (by simp) (.int .i64 x.den))
              generalize ((((w5.setCell ⟨w.heap.size + 2, 0, none⟩ (.int .i64 x.n)).setCell ⟨w.heap.size + 2, 1, none⟩ (.string ⟨x.l.toArray⟩)).setCell ⟨w.heap.size + 2, 2, none⟩ (.int .i64 x.num)).setCell ⟨w.heap.size + 2, 3, none⟩ (.int .i64 x.den)) = w8 at *
              refine bodyPost_ret (results_cell_tmp rfl _ _ (w.heap.size + 2) 23 _ _ rfl HZ.out.blk Tryd.underlying23 rfl (by kernel_rfl)) rfl ?_
              exact ⟨ret_hn HV.out.1.symm HV.out.2.symm, HW.out⟩
            · have HNP := hide (show ∀ j, j < 0 + 1 → (gs a j).lt b = false from lt_succ HNO.out (by rw [HXX.out, ← HCL.out]; simp [hcx]))
              rw [hce]
              clear hce
              go_wp2_with fail
              go_roundw
              case rel => first | exact ⟨0 + 1, by omega, by go_num, HNP.out, HB5.out, HX5.out, HY5.out, HR5.out, HF5.out, HS3.out⟩ | ((repeat apply Exists.intro); exact ⟨⟨0 + 1, by omega, by go_num, HNP.out, HB5.out, HX5.out, HY5.out, HR5.out, HF5.out, HS3.out⟩, rfl⟩)
              case measure => simp [intOf]
          · have HNP := hide (show ∀ j, j < 0 + 1 → (gs a j).lt b = false from lt_succ HNO.out (by rw [HXX.out, ← HCL.out]; simp [hce]))
            have hne : (ce == 0) = false := by simpa using hce
            clear hce
            go_wp2_with fail
            go_roundw
            case rel => first | exact ⟨0 + 1, by omega, by go_num, HNP.out, HB5.out, HX5.out, HY5.out, HR5.out, HF5.out, HS3.out⟩ | ((repeat apply Exists.intro); exact ⟨⟨0 + 1, by omega, by go_num, HNP.out, HB5.out, HX5.out, HY5.out, HR5.out, HF5.out, HS3.out⟩, rfl⟩)
            case measure => simp [intOf]
        | 1, _ =>
          have z := HF3.out.cell 1
          go_wp2_with fail
          refine (clo2_any a w.heap.size _ HAV.out HX3.out).mono ?_
          have hfit := hide (gs_fit (i := 1) HAV.out)
          obtain ⟨x, hxx⟩ : ∃ x, g1 a = x := ⟨_, rfl⟩
          have HXX := hide (show gs a 1 = x from hxx)
          rw [hxx]
          clear hxx z
          rintro e w4 ⟨rfl, hb⟩
          have HB4 := hide ((HB3.out.trans (hb.mono HB3.out.size)).alloc (by have := HB3.out.size; have := hb.size; omega) (.cells #[.int .i64 x.n, .string ⟨x.l.toArray⟩, .int .i64 x.num, .int .i64 x.den] 23))
          have HX4 := hide (HBox.mk ((HX3.out.below hb (by have := HS3.out; have := HS3b.out; omega)).blk.alloc (.cells #[.int .i64 x.n, .string ⟨x.l.toArray⟩, .int .i64 x.num, .int .i64 x.den] 23)))
          have HY3b := hide (HY3.out.below hb (by have := HS3.out; have := HS3b.out; omega))
          have HY4 := hide (HBox.mk (HY3b.out.blk.alloc (.cells #[.int .i64 x.n, .string ⟨x.l.toArray⟩, .int .i64 x.num, .int .i64 x.den] 23)))
          have HR4 := hide (HBox.mk (h := zeroH) ((HR3.out.below hb (by have := HS3.out; have := HS3b.out; omega)).blk.alloc (.cells #[.int .i64 x.n, .string ⟨x.l.toArray⟩, .int .i64 x.num, .int .i64 x.den] 23)))
          have HF4 := hide ((HF3.out.below hb HS3b.out).alloc (.cells #[.int .i64 x.n, .string ⟨x.l.toArray⟩, .int .i64 x.num, .int .i64 x.den] 23))
          have HN4 := hide (HBox.new w4 x)
          have HS4 : Hid (w1.heap.size < w4.heap.size) := by have := hb.size; have := HS3b.out; simp only [Hid]; omega
          obtain ⟨y0, y1, y2, y3⟩ := HY3b.out.facts
          have hl1 : w.heap.size + 1 < w4.heap.size := by have := HS3.out; have := HS4.out; omega
          have hl2 : w.heap.size + 1 ≠ w4.heap.size := by omega
          clear hb HB3 HX3 HY3 HR3 HF3 HS3b
          unfold hval
          go_wp2_with fail
          refine (Compare_any x b _ (by rw [← HXX.out]; exact hfit.out) HLB.out).mono ?_
          rintro e w5 ⟨rfl, hb⟩
          have HB5 := hide (HB4.out.trans (hb.mono HB4.out.size))
          have HX5 := hide (HX4.out.below hb (by have := HS3.out; have := HS4.out; simp; omega))
          have HY5 := hide (HY4.out.below hb (by have := HS3.out; have := HS4.out; simp; omega))
          have HR5 := hide (HR4.out.below hb (by have := HS3.out; have := HS4.out; simp; omega))
          have HF5 := hide (HF4.out.below hb (by have := HS4.out; simp; omega))
          have HN5 := hide (HN4.out.below hb (by simp))
          clear hb HB4 HX4 HY4 HY3b HR4 HF4 HN4 y0 y1 y2 y3 hl1 hl2
          have HCL := hide (cmp_lt x b)
          generalize cmpE x b = ce at HCL ⊢
          generalize cmpV x b = cx at HCL ⊢
          by_cases hce : ce = 0
          · by_cases hcx : cx < 0
            · have HV := hide (bet_at (k := 1) HLT.out HNO.out (by rw [HXX.out, ← HCL.out]; simp [hce, hcx]) (by omega))
              rw [HXX.out] at HV
              obtain ⟨x0, x1, x2, x3⟩ := HN5.out.facts
              have f0 := HR5.out.blk.frozen 0
              have f1 := HR5.out.blk.frozen 1
              have f2 := HR5.out.blk.frozen 2
              have f3 := HR5.out.blk.frozen 3
              obtain ⟨y0, y1, y2, y3⟩ := HR5.out.facts
              rw [hce]
              clear hce
              go_wp2_with fail
              have HZ := hide (HBox.mk ((((HR5.out.blk.set_ 0 (.int .i64 x.n)).set_ 1 (.string ⟨x.l.toArray⟩)).set_ 2 (.int .i64 x.num)).set_ 3 (.int .i64 x.den)) : HBox _ _ ⟨x.n, x.l, x.num, x.den⟩)
              have HW := hide ((((HB5.out.setCell (p := ⟨w.heap.size + 2, 0, none⟩) (by simp) (.int .i64 x.n)).setCell (p := ⟨w.heap.size + 2, 1, none⟩) (by simp) (.string ⟨x.l.toArray⟩)).setCell (p := ⟨w.heap.size + 2, 2, none⟩) (by simp) (.int .i64 x.num)).setCell (p := ⟨w.heap.size + 2, 3, none⟩) (by simp) (.int .i64 x.den))
              generalize ((((w5.setCell ⟨w.heap.size + 2, 0, none⟩ (.int .i64 x.n)).setCell ⟨w.heap.size + 2, 1, none⟩ (.string ⟨x.l.toArray⟩)).setCell ⟨w.heap.size + 2, 2, none⟩ (.int .i64 x.num)).setCell ⟨w.heap.size + 2, 3, none⟩ (.int .i64 x.den)) = w8 at *
              refine bodyPost_ret (results_cell_tmp rfl _ _ (w.heap.size + 2) 23 _ _ rfl HZ.out.blk Tryd.underlying23 rfl (by kernel_rfl)) rfl ?_
              exact ⟨ret_hn HV.out.1.symm HV.out.2.symm, HW.out⟩
            · have HNP := hide (show ∀ j, j < 1 + 1 → (gs a j).lt b = false from lt_succ HNO.out (by rw [HXX.out, ← HCL.out]; simp [hcx]))
              rw [hce]
              clear hce
              go_wp2_with fail
              go_roundw
              case rel => first | exact ⟨1 + 1, by omega, by go_num, HNP.out, HB5.out, HX5.out, HY5.out, HR5.out, HF5.out, HS3.out⟩ | ((repeat apply Exists.intro); exact ⟨⟨1 + 1, by omega, by go_num, HNP.out, HB5.out, HX5.out, HY5.out, HR5.out, HF5.out, HS3.out⟩, rfl⟩)
              case measure => simp [intOf]
          · have HNP := hide (show ∀ j, j < 1 + 1 → (gs a j).lt b = false from lt_succ HNO.out (by rw [HXX.out, ← HCL.out]; simp [hce]))
            have hne : (ce == 0) = false := by simpa using hce
            clear hce
            go_wp2_with fail
            go_roundw
            case rel => first | exact ⟨1 + 1, by omega, by go_num, HNP.out, HB5.out, HX5.out, HY5.out, HR5.out, HF5.out, HS3.out⟩ | ((repeat apply Exists.intro); exact ⟨⟨1 + 1, by omega, by go_num, HNP.out, HB5.out, HX5.out, HY5.out, HR5.out, HF5.out, HS3.out⟩, rfl⟩)
            case measure => simp [intOf]
        | 2, _ =>
          have z := HF3.out.cell 2
          go_wp2_with fail
          refine (clo3_any a w.heap.size _ HAV.out HX3.out).mono ?_
          have hfit := hide (gs_fit (i := 2) HAV.out)
          obtain ⟨x, hxx⟩ : ∃ x, g2 a = x := ⟨_, rfl⟩
          have HXX := hide (show gs a 2 = x from hxx)
          rw [hxx]
          clear hxx z
          rintro e w4 ⟨rfl, hb⟩
          have HB4 := hide ((HB3.out.trans (hb.mono HB3.out.size)).alloc (by have := HB3.out.size; have := hb.size; omega) (.cells #[.int .i64 x.n, .string ⟨x.l.toArray⟩, .int .i64 x.num, .int .i64 x.den] 23))
          have HX4 := hide (HBox.mk ((HX3.out.below hb (by have := HS3.out; have := HS3b.out; omega)).blk.alloc (.cells #[.int .i64 x.n, .string ⟨x.l.toArray⟩, .int .i64 x.num, .int .i64 x.den] 23)))
          have HY3b := hide (HY3.out.below hb (by have := HS3.out; have := HS3b.out; omega))
          have HY4 := hide (HBox.mk (HY3b.out.blk.alloc (.cells #[.int .i64 x.n, .string ⟨x.l.toArray⟩, .int .i64 x.num, .int .i64 x.den] 23)))
          have HR4 := hide (HBox.mk (h := zeroH) ((HR3.out.below hb (by have := HS3.out; have := HS3b.out; omega)).blk.alloc (.cells #[.int .i64 x.n, .string ⟨x.l.toArray⟩, .int .i64 x.num, .int .i64 x.den] 23)))
          have HF4 := hide ((HF3.out.below hb HS3b.out).alloc (.cells #[.int .i64 x.n, .string ⟨x.l.toArray⟩, .int .i64 x.num, .int .i64 x.den] 23))
          have HN4 := hide (HBox.new w4 x)
          have HS4 : Hid (w1.heap.size < w4.heap.size) := by have := hb.size; have := HS3b.out; simp only [Hid]; omega
          obtain ⟨y0, y1, y2, y3⟩ := HY3b.out.facts
          have hl1 : w.heap.size + 1 < w4.heap.size := by have := HS3.out; have := HS4.out; omega
          have hl2 : w.heap.size + 1 ≠ w4.heap.size := by omega
          clear hb HB3 HX3 HY3 HR3 HF3 HS3b
          unfold hval
          go_wp2_with fail
          refine (Compare_any x b _ (by rw [← HXX.out]; exact hfit.out) HLB.out).mono ?_
          rintro e w5 ⟨rfl, hb⟩
          have HB5 := hide (HB4.out.trans (hb.mono HB4.out.size))
          have HX5 := hide (HX4.out.below hb (by have := HS3.out; have := HS4.out; simp; omega))
          have HY5 := hide (HY4.out.below hb (by have := HS3.out; have := HS4.out; simp; omega))
          have HR5 := hide (HR4.out.below hb (by have := HS3.out; have := HS4.out; simp; omega))
          have HF5 := hide (HF4.out.below hb (by have := HS4.out; simp; omega))
          have HN5 := hide (HN4.out.below hb (by simp))
          clear hb HB4 HX4 HY4 HY3b HR4 HF4 HN4 y0 y1 y2 y3 hl1 hl2
          have HCL := hide (cmp_lt x b)
          generalize cmpE x b = ce at HCL ⊢
          generalize cmpV x b = cx at HCL ⊢
          by_cases hce : ce = 0
          · by_cases hcx : cx < 0
            · have HV := hide (bet_at (k := 2) HLT.out HNO.out (by rw [HXX.out, ← HCL.out]; simp [hce, hcx]) (by omega))
              rw [HXX.out] at HV
              obtain ⟨x0, x1, x2, x3⟩ := HN5.out.facts
              have f0 := HR5.out.blk.frozen 0
              have f1 := HR5.out.blk.frozen 1
              have f2 := HR5.out.blk.frozen 2
              have f3 := HR5.out.blk.frozen 3
              obtain ⟨y0, y1, y2, y3⟩ := HR5.out.facts
              rw [hce]
              clear hce
              go_wp2_with fail
              have HZ := hide (HBox.mk ((((HR5.out.blk.set_ 0 (.int .i64 x.n)).set_ 1 (.string ⟨x.l.toArray⟩)).set_ 2 (.int .i64 x.num)).set_ 3 (.int .i64 x.den)) : HBox _ _ ⟨x.n, x.l, x.num, x.den⟩)
              have HW := hide ((((HB5.out.setCell (p := ⟨w.heap.size + 2, 0, none⟩) (by simp) (.int .i64 x.n)).setCell (p := ⟨w.heap.size + 2, 1, none⟩) (by simp) (.string ⟨x.l.toArray⟩)).setCell (p := ⟨w.heap.size + 2, 2, none⟩) (by simp) (.int .i64 x.num)).setCell (p := ⟨w.heap.size + 2, 3, none⟩) (by simp) (.int .i64 x.den))
              generalize ((((w5.setCell ⟨w.heap.size + 2, 0, none⟩ (.int .i64 x.n)).setCell ⟨w.heap.size + 2, 1, none⟩ (.string ⟨x.l.toArray⟩)).setCell ⟨w.heap.size + 2, 2, none⟩ (.int .i64 x.num)).setCell ⟨w.heap.size + 2, 3, none⟩ (.int .i64 x.den)) = w8 at *
              refine bodyPost_ret (results_cell_tmp rfl _ _ (w.heap.size + 2) 23 _ _ rfl HZ.out.blk Tryd.underlying23 rfl (by kernel_rfl)) rfl ?_
              exact ⟨ret_hn HV.out.1.symm HV.out.2.symm, HW.out⟩
            · have HNP := hide (show ∀ j, j < 2 + 1 → (gs a j).lt b = false from lt_succ HNO.out (by rw [HXX.out, ← HCL.out]; simp [hcx]))
              rw [hce]
              clear hce
              go_wp2_with fail
              go_roundw
              case rel => first | exact ⟨2 + 1, by omega, by go_num, HNP.out, HB5.out, HX5.out, HY5.out, HR5.out, HF5.out, HS3.out⟩ | ((repeat apply Exists.intro); exact ⟨⟨2 + 1, by omega, by go_num, HNP.out, HB5.out, HX5.out, HY5.out, HR5.out, HF5.out, HS3.out⟩, rfl⟩)
              case measure => simp [intOf]
          · have HNP := hide (show ∀ j, j < 2 + 1 → (gs a j).lt b = false from lt_succ HNO.out (by rw [HXX.out, ← HCL.out]; simp [hce]))
            have hne : (ce == 0) = false := by simpa using hce
            clear hce
            go_wp2_with fail
            go_roundw
            case rel => first | exact ⟨2 + 1, by omega, by go_num, HNP.out, HB5.out, HX5.out, HY5.out, HR5.out, HF5.out, HS3.out⟩ | ((repeat apply Exists.intro); exact ⟨⟨2 + 1, by omega, by go_num, HNP.out, HB5.out, HX5.out, HY5.out, HR5.out, HF5.out, HS3.out⟩, rfl⟩)
            case measure => simp [intOf]
        | 3, _ =>
          have z := HF3.out.cell 3
          go_wp2_with fail
          refine (clo4_any a w.heap.size _ HAV.out HX3.out).mono ?_
          have hfit := hide (gs_fit (i := 3) HAV.out)
          obtain ⟨x, hxx⟩ : ∃ x, g3 a = x := ⟨_, rfl⟩
          have HXX := hide (show gs a 3 = x from hxx)
          rw [hxx]
          clear hxx z
          rintro e w4 ⟨rfl, hb⟩
          have HB4 := hide ((HB3.out.trans (hb.mono HB3.out.size)).alloc (by have := HB3.out.size; have := hb.size; omega) (.cells #[.int .i64 x.n, .string ⟨x.l.toArray⟩, .int .i64 x.num, .int .i64 x.den] 23))
          have HX4 := hide (HBox.mk ((HX3.out.below hb (by have := HS3.out; have := HS3b.out; omega)).blk.alloc (.cells #[.int .i64 x.n, .string ⟨x.l.toArray⟩, .int .i64 x.num, .int .i64 x.den] 23)))
          have HY3b := hide (HY3.out.below hb (by have := HS3.out; have := HS3b.out; omega))
          have HY4 := hide (HBox.mk (HY3b.out.blk.alloc (.cells #[.int .i64 x.n, .string ⟨x.l.toArray⟩, .int .i64 x.num, .int .i64 x.den] 23)))
          have HR4 := hide (HBox.mk (h := zeroH) ((HR3.out.below hb (by have := HS3.out; have := HS3b.out; omega)).blk.alloc (.cells #[.int .i64 x.n, .string ⟨x.l.toArray⟩, .int .i64 x.num, .int .i64 x.den] 23)))
          have HF4 := hide ((HF3.out.below hb HS3b.out).alloc (.cells #[.int .i64 x.n, .string ⟨x.l.toArray⟩, .int .i64 x.num, .int .i64 x.den] 23))
          have HN4 := hide (HBox.new w4 x)
          have HS4 : Hid (w1.heap.size < w4.heap.size) := by have := hb.size; have := HS3b.out; simp only [Hid]; omega
          obtain ⟨y0, y1, y2, y3⟩ := HY3b.out.facts
          have hl1 : w.heap.size + 1 < w4.heap.size := by have := HS3.out; have := HS4.out; omega
          have hl2 : w.heap.size + 1 ≠ w4.heap.size := by omega
          clear hb HB3 HX3 HY3 HR3 HF3 HS3b
          unfold hval
          go_wp2_with fail
          refine (Compare_any x b _ (by rw [← HXX.out]; exact hfit.out) HLB.out).mono ?_
          rintro e w5 ⟨rfl, hb⟩
          have HB5 := hide (HB4.out.trans (hb.mono HB4.out.size))
          have HX5 := hide (HX4.out.below hb (by have := HS3.out; have := HS4.out; simp; omega))
          have HY5 := hide (HY4.out.below hb (by have := HS3.out; have := HS4.out; simp; omega))
          have HR5 := hide (HR4.out.below hb (by have := HS3.out; have := HS4.out; simp; omega))
          have HF5 := hide (HF4.out.below hb (by have := HS4.out; simp; omega))
          have HN5 := hide (HN4.out.below hb (by simp))
          clear hb HB4 HX4 HY4 HY3b HR4 HF4 HN4 y0 y1 y2 y3 hl1 hl2
          have HCL := hide (cmp_lt x b)
          generalize cmpE x b = ce at HCL ⊢
          generalize cmpV x b = cx at HCL ⊢
          by_cases hce : ce = 0
          · by_cases hcx : cx < 0
            · have HV := hide (bet_at (k := 3) HLT.out HNO.out (by rw [HXX.out, ← HCL.out]; simp [hce, hcx]) (by omega))
              rw [HXX.out] at HV
              obtain ⟨x0, x1, x2, x3⟩ := HN5.out.facts
              have f0 := HR5.out.blk.frozen 0
              have f1 := HR5.out.blk.frozen 1
              have f2 := HR5.out.blk.frozen 2
              have f3 := HR5.out.blk.frozen 3
              obtain ⟨y0, y1, y2, y3⟩ := HR5.out.facts
              rw [hce]
              clear hce
              go_wp2_with fail
              have HZ := hide (HBox.mk ((((HR5.out.blk.set_ 0 (.int .i64 x.n)).set_ 1 (.string ⟨x.l.toArray⟩)).set_ 2 (.int .i64 x.num)).set_ 3 (.int .i64 x.den)) : HBox _ _ ⟨x.n, x.l, x.num, x.den⟩)
              have HW := hide ((((HB5.out.setCell (p := ⟨w.heap.size + 2, 0, none⟩) (by simp) (.int .i64 x.n)).setCell (p := ⟨w.heap.size + 2, 1, none⟩) (by simp) (.string ⟨x.l.toArray⟩)).setCell (p := ⟨w.heap.size + 2, 2, none⟩) (by simp) (.int .i64 x.num)).setCell (p := ⟨w.heap.size + 2, 3, none⟩) (by simp) (.int .i64 x.den))
              generalize ((((w5.setCell ⟨w.heap.size + 2, 0, none⟩ (.int .i64 x.n)).setCell ⟨w.heap.size + 2, 1, none⟩ (.string ⟨x.l.toArray⟩)).setCell ⟨w.heap.size + 2, 2, none⟩ (.int .i64 x.num)).setCell ⟨w.heap.size + 2, 3, none⟩ (.int .i64 x.den)) = w8 at *
              refine bodyPost_ret (results_cell_tmp rfl _ _ (w.heap.size + 2) 23 _ _ rfl HZ.out.blk Tryd.underlying23 rfl (by kernel_rfl)) rfl ?_
              exact ⟨ret_hn HV.out.1.symm HV.out.2.symm, HW.out⟩
            · have HNP := hide (show ∀ j, j < 3 + 1 → (gs a j).lt b = false from lt_succ HNO.out (by rw [HXX.out, ← HCL.out]; simp [hcx]))
              rw [hce]
              clear hce
              go_wp2_with fail
              go_roundw
              case rel => first | exact ⟨3 + 1, by omega, by go_num, HNP.out, HB5.out, HX5.out, HY5.out, HR5.out, HF5.out, HS3.out⟩ | ((repeat apply Exists.intro); exact ⟨⟨3 + 1, by omega, by go_num, HNP.out, HB5.out, HX5.out, HY5.out, HR5.out, HF5.out, HS3.out⟩, rfl⟩)
              case measure => simp [intOf]
          · have HNP := hide (show ∀ j, j < 3 + 1 → (gs a j).lt b = false from lt_succ HNO.out (by rw [HXX.out, ← HCL.out]; simp [hce]))
            have hne : (ce == 0) = false := by simpa using hce
            clear hce
            go_wp2_with fail
            go_roundw
            case rel => first | exact ⟨3 + 1, by omega, by go_num, HNP.out, HB5.out, HX5.out, HY5.out, HR5.out, HF5.out, HS3.out⟩ | ((repeat apply Exists.intro); exact ⟨⟨3 + 1, by omega, by go_num, HNP.out, HB5.out, HX5.out, HY5.out, HR5.out, HF5.out, HS3.out⟩, rfl⟩)
            case measure => simp [intOf]
        | 4, _ =>
          have HV := hide (bet_none HLT.out HNO.out)
          have f0 := HR3.out.blk.frozen 0
          have f1 := HR3.out.blk.frozen 1
          have f2 := HR3.out.blk.frozen 2
          have f3 := HR3.out.blk.frozen 3
          obtain ⟨y0, y1, y2, y3⟩ := HR3.out.facts
          go_wp2_with fail
          have HZ := hide (HBox.mk ((((HR3.out.blk.set_ 0 (.int .i64 0)).set_ 1 (.string ⟨#[]⟩)).set_ 2 (.int .i64 0)).set_ 3 (.int .i64 0)) : HBox _ _ ⟨0, [], 0, 0⟩)
          have HW := hide ((((HB3.out.setCell (p := ⟨w.heap.size + 2, 0, none⟩) (by simp) (.int .i64 0)).setCell (p := ⟨w.heap.size + 2, 1, none⟩) (by simp) (.string ⟨#[]⟩)).setCell (p := ⟨w.heap.size + 2, 2, none⟩) (by simp) (.int .i64 0)).setCell (p := ⟨w.heap.size + 2, 3, none⟩) (by simp) (.int .i64 0))
          generalize ((((wr.setCell ⟨w.heap.size + 2, 0, none⟩ (.int .i64 0)).setCell ⟨w.heap.size + 2, 1, none⟩ (.string ⟨#[]⟩)).setCell ⟨w.heap.size + 2, 2, none⟩ (.int .i64 0)).setCell ⟨w.heap.size + 2, 3, none⟩ (.int .i64 0)) = w8 at *
          refine bodyPost_ret (results_cell_tmp rfl _ _ (w.heap.size + 2) 23 _ _ rfl HZ.out.blk Tryd.underlying23 rfl (by kernel_rfl)) rfl ?_
          exact ⟨ret_hn HV.out.1.symm HV.out.2.symm, HW.out⟩
end Go.Proofs.YtabphhclnboknaaDoor
