/- Walks of package number: the four closures of Between. -/
import Derived.Test.YtabphhclnboknaaDoorW7
set_option linter.unusedVariables false
set_option linter.unusedSimpArgs false
namespace Go.Proofs.YtabphhclnboknaaDoor
open Go.RowKit

theorem results_cell1 {P : Program} {fn : Func} {p : Tmp} {ty : TypeId} (h : fn.results = #[.cell p ty]) (tmps : Array Value) (w : World) (g : Nat) (t : TypeId) (cs : Array Value) (d : TypeDesc)
    (hp : tmps.getD p undef = .pointer (some ⟨g, 0, none⟩)) (hg : Blk w g t cs)
    (hu : P.underlying ty = some d) (hd : (match d with | .struct _ | .array _ _ => true | _ => false) = true) (hi : (P.info? ty).map (·.size) = some cs.size) :
    (results fn tmps).run P w = .ok (.agg cs) w := by
  have hp' : tmps[p]?.getD undef = .pointer (some ⟨g, 0, none⟩) := by simpa using hp
  simp [results, h, hp', asAddr, run_loadVar_row w g t ty cs (0, 0) d hg hu hd hi]

set_option maxHeartbeats 2000000 in
theorem clo1_any (a : HN) (b : Nat) (w : World) (hv : a.valid = true) (H : HBox w b a) : Calls Tryd.prog 37 #[.pointer (some ⟨b, 0, none⟩)] w fun e w' => e = .returned (hval (g0 a)) ∧ Below w.heap.size w w' := by
  obtain ⟨n1, n2, l1, p1⟩ := (valid_iff a).1 hv
  have hlt := H.blk.lt
  have hne : b ≠ w.heap.size := by omega
  have HX := hide (HBox.mk (H.blk.alloc (.cells #[.int .i64 0, .string ⟨#[]⟩, .int .i64 0, .int .i64 0] 23)))
  have HR := hide (HBox.mk (h := ⟨0, [], 0, 0⟩) (Blk.new w 23 #[.int .i64 0, .string ⟨#[]⟩, .int .i64 0, .int .i64 0]))
  have HB := hide ((Below.refl w.heap.size w).alloc (Nat.le_refl _) (.cells #[.int .i64 0, .string ⟨#[]⟩, .int .i64 0, .int .i64 0] 23))
  have HL := hide l1
  have HLT : Hid (b < w.heap.size) := hlt
  obtain ⟨x0, x1, x2, x3⟩ := H.facts
  clear H hv p1 l1
  go_enter Tryd.func37, Tryd.ntmps37
  go_wp2_with fail
  refine bodyPost_ret (results_cell1 rfl _ _ w.heap.size 23 _ _ rfl (Blk.new w 23 #[.int .i64 (a.n + 1), .string ⟨#[]⟩, .int .i64 0, .int .i64 0]) Tryd.underlying23 rfl (by kernel_rfl)) rfl ?_
  exact ⟨rfl, (Below.refl _ _).alloc (Nat.le_refl _) _⟩
set_option maxHeartbeats 2000000 in
theorem clo2_any (a : HN) (b : Nat) (w : World) (hv : a.valid = true) (H : HBox w b a) : Calls Tryd.prog 38 #[.pointer (some ⟨b, 0, none⟩)] w fun e w' => e = .returned (hval (g1 a)) ∧ Below w.heap.size w w' := by
  obtain ⟨n1, n2, l1, p1⟩ := (valid_iff a).1 hv
  have hlt := H.blk.lt
  have hne : b ≠ w.heap.size := by omega
  have HX := hide (HBox.mk (H.blk.alloc (.cells #[.int .i64 0, .string ⟨#[]⟩, .int .i64 0, .int .i64 0] 23)))
  have HR := hide (HBox.mk (h := ⟨0, [], 0, 0⟩) (Blk.new w 23 #[.int .i64 0, .string ⟨#[]⟩, .int .i64 0, .int .i64 0]))
  have HB := hide ((Below.refl w.heap.size w).alloc (Nat.le_refl _) (.cells #[.int .i64 0, .string ⟨#[]⟩, .int .i64 0, .int .i64 0] 23))
  have HL := hide l1
  have HLT : Hid (b < w.heap.size) := hlt
  obtain ⟨x0, x1, x2, x3⟩ := H.facts
  clear H hv p1 l1
  go_enter Tryd.func38, Tryd.ntmps38
  go_wp2_with fail
  refine (next_any a _ HL.out).mono ?_
  rintro e w1 ⟨rfl, hb⟩
  have HB1 := hide (HB.out.trans (hb.mono HB.out.size))
  have HX1 := hide (HX.out.below hb (by simp; omega))
  have HR1 := hide (HR.out.below hb (by simp))
  have HS1 : Hid (w.heap.size < w1.heap.size) := by have := hb.size; simp at this; exact this
  clear hb HB HX HR x0 x1 x2 x3 hne hlt
  obtain ⟨x0, x1, x2, x3⟩ := HX1.out.facts
  obtain ⟨y0, y1, y2, y3⟩ := HR1.out.facts
  have f0 := HR1.out.blk.frozen 0
  have f1 := HR1.out.blk.frozen 1
  have f2 := HR1.out.blk.frozen 2
  have f3 := HR1.out.blk.frozen 3
  cases hm : nextL a.l with
  | none =>
    have HV : Hid (g1 a = ⟨a.n + 1, [97], 0, 0⟩) := by show _ = _; unfold g1; rw [hm]
    have hs : nextS a.l = [] := by unfold nextS; rw [hm]; rfl
    rw [hs]
    simp only [Option.isSome_none]
    go_wp2_with fail
    have HZ := hide ((((HR1.out.blk.set_ 0 (.int .i64 (a.n + 1))).set_ 1 (.string ⟨#[97]⟩)).set_ 2 (.int .i64 (0))).set_ 3 (.int .i64 (0)))
    have HW := hide ((((HB1.out.setCell (p := ⟨w.heap.size, 0, none⟩) (Nat.le_refl _) (.int .i64 (a.n + 1))).setCell (p := ⟨w.heap.size, 1, none⟩) (Nat.le_refl _) (.string ⟨#[97]⟩)).setCell (p := ⟨w.heap.size, 2, none⟩) (Nat.le_refl _) (.int .i64 (0))).setCell (p := ⟨w.heap.size, 3, none⟩) (Nat.le_refl _) (.int .i64 (0)))
    generalize ((((w1.setCell ⟨w.heap.size, 0, none⟩ (.int .i64 (a.n + 1))).setCell ⟨w.heap.size, 1, none⟩ (.string ⟨#[97]⟩)).setCell ⟨w.heap.size, 2, none⟩ (.int .i64 (0))).setCell ⟨w.heap.size, 3, none⟩ (.int .i64 (0))) = w8 at *
    refine bodyPost_ret (results_cell1 rfl _ _ w.heap.size 23 _ _ rfl HZ.out Tryd.underlying23 rfl (by kernel_rfl)) rfl ?_
    refine ⟨?_, HW.out⟩
    rw [HV.out]; rfl
  | some m =>
    have HV : Hid (g1 a = ⟨a.n, m, 0, 0⟩) := by show _ = _; unfold g1; rw [hm]
    have hs : nextS a.l = m := by unfold nextS; rw [hm]; rfl
    rw [hs]
    simp only [Option.isSome_some]
    go_wp2_with fail
    have HZ := hide ((((HR1.out.blk.set_ 0 (.int .i64 (a.n))).set_ 1 (.string (bs m))).set_ 2 (.int .i64 (0))).set_ 3 (.int .i64 (0)))
    have HW := hide ((((HB1.out.setCell (p := ⟨w.heap.size, 0, none⟩) (Nat.le_refl _) (.int .i64 (a.n))).setCell (p := ⟨w.heap.size, 1, none⟩) (Nat.le_refl _) (.string (bs m))).setCell (p := ⟨w.heap.size, 2, none⟩) (Nat.le_refl _) (.int .i64 (0))).setCell (p := ⟨w.heap.size, 3, none⟩) (Nat.le_refl _) (.int .i64 (0)))
    generalize ((((w1.setCell ⟨w.heap.size, 0, none⟩ (.int .i64 (a.n))).setCell ⟨w.heap.size, 1, none⟩ (.string (bs m))).setCell ⟨w.heap.size, 2, none⟩ (.int .i64 (0))).setCell ⟨w.heap.size, 3, none⟩ (.int .i64 (0))) = w8 at *
    refine bodyPost_ret (results_cell1 rfl _ _ w.heap.size 23 _ _ rfl HZ.out Tryd.underlying23 rfl (by kernel_rfl)) rfl ?_
    refine ⟨?_, HW.out⟩
    rw [HV.out]; rfl
set_option maxHeartbeats 2000000 in
theorem clo3_any (a : HN) (b : Nat) (w : World) (hv : a.valid = true) (H : HBox w b a) : Calls Tryd.prog 40 #[.pointer (some ⟨b, 0, none⟩)] w fun e w' => e = .returned (hval (g2 a)) ∧ Below w.heap.size w w' := by
  obtain ⟨n1, n2, l1, p1⟩ := (valid_iff a).1 hv
  have hlt := H.blk.lt
  have hne : b ≠ w.heap.size := by omega
  have HX := hide (HBox.mk (H.blk.alloc (.cells #[.int .i64 0, .string ⟨#[]⟩, .int .i64 0, .int .i64 0] 23)))
  have HR := hide (HBox.mk (h := ⟨0, [], 0, 0⟩) (Blk.new w 23 #[.int .i64 0, .string ⟨#[]⟩, .int .i64 0, .int .i64 0]))
  have HB := hide ((Below.refl w.heap.size w).alloc (Nat.le_refl _) (.cells #[.int .i64 0, .string ⟨#[]⟩, .int .i64 0, .int .i64 0] 23))
  have HL := hide l1
  have HLT : Hid (b < w.heap.size) := hlt
  obtain ⟨x0, x1, x2, x3⟩ := H.facts
  clear H hv p1 l1
  go_enter Tryd.func40, Tryd.ntmps40
  go_wp2_with fail
  refine (more_any a _).mono ?_
  rintro e w1 ⟨rfl, hb⟩
  have HB1 := hide (HB.out.trans (hb.mono HB.out.size))
  have HX1 := hide (HX.out.below hb (by simp; omega))
  have HR1 := hide (HR.out.below hb (by simp))
  have HS1 : Hid (w.heap.size < w1.heap.size) := by have := hb.size; simp at this; exact this
  clear hb HB HX HR x0 x1 x2 x3 hne hlt
  obtain ⟨x0, x1, x2, x3⟩ := HX1.out.facts
  obtain ⟨y0, y1, y2, y3⟩ := HR1.out.facts
  have f0 := HR1.out.blk.frozen 0
  have f1 := HR1.out.blk.frozen 1
  have f2 := HR1.out.blk.frozen 2
  have f3 := HR1.out.blk.frozen 3
  obtain ⟨x, hx⟩ : ∃ x, (moreP a).getD a = x := ⟨_, rfl⟩
  rw [hx]
  unfold hval
  have hlt1 : b < w1.heap.size := by have := HS1.out; have := HLT.out; omega
  have hlt2 : w.heap.size < w1.heap.size := HS1.out
  have hne1 : b ≠ w1.heap.size := by omega
  have hne2 : w.heap.size ≠ w1.heap.size := by omega
  have hne3 : b ≠ w.heap.size := by have := HLT.out; omega
  cases hm : moreP a with
  | none =>
    have HV : Hid (g2 a = ⟨a.n + 1, [], 1, 9⟩) := by show _ = _; unfold g2; rw [hm]
    simp only [Option.isSome_none]
    go_wp2_with fail
    have HZ := hide (((((HR1.out.blk.set_ 0 (.int .i64 (a.n + 1))).set_ 1 (.string ⟨#[]⟩)).set_ 2 (.int .i64 (1))).set_ 3 (.int .i64 (9))).alloc (.cells #[.int .i64 x.n, .string ⟨x.l.toArray⟩, .int .i64 x.num, .int .i64 x.den] 23))
    have HW := hide (((((HB1.out.setCell (p := ⟨w.heap.size, 0, none⟩) (Nat.le_refl _) (.int .i64 (a.n + 1))).setCell (p := ⟨w.heap.size, 1, none⟩) (Nat.le_refl _) (.string ⟨#[]⟩)).setCell (p := ⟨w.heap.size, 2, none⟩) (Nat.le_refl _) (.int .i64 (1))).setCell (p := ⟨w.heap.size, 3, none⟩) (Nat.le_refl _) (.int .i64 (9))).alloc (by have := HS1.out; simp; omega) (.cells #[.int .i64 x.n, .string ⟨x.l.toArray⟩, .int .i64 x.num, .int .i64 x.den] 23))
    generalize ((((w1.setCell ⟨w.heap.size, 0, none⟩ (.int .i64 (a.n + 1))).setCell ⟨w.heap.size, 1, none⟩ (.string ⟨#[]⟩)).setCell ⟨w.heap.size, 2, none⟩ (.int .i64 (1))).setCell ⟨w.heap.size, 3, none⟩ (.int .i64 (9))).alloc (.cells #[.int .i64 x.n, .string ⟨x.l.toArray⟩, .int .i64 x.num, .int .i64 x.den] 23) = w8 at *
    refine bodyPost_ret (results_cell1 rfl _ _ w.heap.size 23 _ _ rfl HZ.out Tryd.underlying23 rfl (by kernel_rfl)) rfl ?_
    refine ⟨?_, HW.out⟩
    rw [HV.out]; rfl
  | some z =>
    rw [hm] at hx
    obtain rfl : z = x := hx
    simp only [Option.isSome_some]
    by_cases hl0 : a.l = []
    · have HV : Hid (g2 a = z) := by show _ = _; unfold g2; rw [hm]; simp [hl0]
      have he2 : a.l.isEmpty = true := by simpa using hl0
      clear hl0
      go_wp2_with fail
      have HZ := hide (((((HR1.out.blk.set_ 0 (.int .i64 (z.n))).set_ 1 (.string ⟨z.l.toArray⟩)).set_ 2 (.int .i64 (z.num))).set_ 3 (.int .i64 (z.den))).alloc (.cells #[.int .i64 z.n, .string ⟨z.l.toArray⟩, .int .i64 z.num, .int .i64 z.den] 23))
      have HW := hide (((((HB1.out.setCell (p := ⟨w.heap.size, 0, none⟩) (Nat.le_refl _) (.int .i64 (z.n))).setCell (p := ⟨w.heap.size, 1, none⟩) (Nat.le_refl _) (.string ⟨z.l.toArray⟩)).setCell (p := ⟨w.heap.size, 2, none⟩) (Nat.le_refl _) (.int .i64 (z.num))).setCell (p := ⟨w.heap.size, 3, none⟩) (Nat.le_refl _) (.int .i64 (z.den))).alloc (by have := HS1.out; simp; omega) (.cells #[.int .i64 z.n, .string ⟨z.l.toArray⟩, .int .i64 z.num, .int .i64 z.den] 23))
      generalize ((((w1.setCell ⟨w.heap.size, 0, none⟩ (.int .i64 (z.n))).setCell ⟨w.heap.size, 1, none⟩ (.string ⟨z.l.toArray⟩)).setCell ⟨w.heap.size, 2, none⟩ (.int .i64 (z.num))).setCell ⟨w.heap.size, 3, none⟩ (.int .i64 (z.den))).alloc (.cells #[.int .i64 z.n, .string ⟨z.l.toArray⟩, .int .i64 z.num, .int .i64 z.den] 23) = w8 at *
      refine bodyPost_ret (results_cell1 rfl _ _ w.heap.size 23 _ _ rfl HZ.out Tryd.underlying23 rfl (by kernel_rfl)) rfl ?_
      refine ⟨?_, HW.out⟩
      rw [HV.out]; rfl
    · have HV : Hid (g2 a = ⟨a.n + 1, [], 1, 9⟩) := by show _ = _; unfold g2; rw [hm]; simp [hl0]
      have he2 : a.l.isEmpty = false := by simpa using hl0
      clear hl0
      go_wp2_with fail
      have HZ := hide (((((HR1.out.blk.set_ 0 (.int .i64 (a.n + 1))).set_ 1 (.string ⟨#[]⟩)).set_ 2 (.int .i64 (1))).set_ 3 (.int .i64 (9))).alloc (.cells #[.int .i64 z.n, .string ⟨z.l.toArray⟩, .int .i64 z.num, .int .i64 z.den] 23))
      have HW := hide (((((HB1.out.setCell (p := ⟨w.heap.size, 0, none⟩) (Nat.le_refl _) (.int .i64 (a.n + 1))).setCell (p := ⟨w.heap.size, 1, none⟩) (Nat.le_refl _) (.string ⟨#[]⟩)).setCell (p := ⟨w.heap.size, 2, none⟩) (Nat.le_refl _) (.int .i64 (1))).setCell (p := ⟨w.heap.size, 3, none⟩) (Nat.le_refl _) (.int .i64 (9))).alloc (by have := HS1.out; simp; omega) (.cells #[.int .i64 z.n, .string ⟨z.l.toArray⟩, .int .i64 z.num, .int .i64 z.den] 23))
      generalize ((((w1.setCell ⟨w.heap.size, 0, none⟩ (.int .i64 (a.n + 1))).setCell ⟨w.heap.size, 1, none⟩ (.string ⟨#[]⟩)).setCell ⟨w.heap.size, 2, none⟩ (.int .i64 (1))).setCell ⟨w.heap.size, 3, none⟩ (.int .i64 (9))).alloc (.cells #[.int .i64 z.n, .string ⟨z.l.toArray⟩, .int .i64 z.num, .int .i64 z.den] 23) = w8 at *
      refine bodyPost_ret (results_cell1 rfl _ _ w.heap.size 23 _ _ rfl HZ.out Tryd.underlying23 rfl (by kernel_rfl)) rfl ?_
      refine ⟨?_, HW.out⟩
      rw [HV.out]; rfl
set_option maxHeartbeats 2000000 in
theorem clo4_any (a : HN) (b : Nat) (w : World) (hv : a.valid = true) (H : HBox w b a) : Calls Tryd.prog 42 #[.pointer (some ⟨b, 0, none⟩)] w fun e w' => e = .returned (hval (g3 a)) ∧ Below w.heap.size w w' := by
  obtain ⟨n1, n2, l1, p1⟩ := (valid_iff a).1 hv
  have hlt := H.blk.lt
  have hne : b ≠ w.heap.size := by omega
  have HX := hide (HBox.mk (H.blk.alloc (.cells #[.int .i64 0, .string ⟨#[]⟩, .int .i64 0, .int .i64 0] 23)))
  have HR := hide (HBox.mk (h := ⟨0, [], 0, 0⟩) (Blk.new w 23 #[.int .i64 0, .string ⟨#[]⟩, .int .i64 0, .int .i64 0]))
  have HB := hide ((Below.refl w.heap.size w).alloc (Nat.le_refl _) (.cells #[.int .i64 0, .string ⟨#[]⟩, .int .i64 0, .int .i64 0] 23))
  have HL := hide l1
  have HLT : Hid (b < w.heap.size) := hlt
  obtain ⟨x0, x1, x2, x3⟩ := H.facts
  clear H hv p1 l1
  go_enter Tryd.func42, Tryd.ntmps42
  go_wp2_with fail
  refine (more_any a _).mono ?_
  rintro e w1 ⟨rfl, hb⟩
  have HB1 := hide (HB.out.trans (hb.mono HB.out.size))
  have HX1 := hide (HX.out.below hb (by simp; omega))
  have HR1 := hide (HR.out.below hb (by simp))
  have HS1 : Hid (w.heap.size < w1.heap.size) := by have := hb.size; simp at this; exact this
  clear hb HB HX HR x0 x1 x2 x3 hne hlt
  obtain ⟨x0, x1, x2, x3⟩ := HX1.out.facts
  obtain ⟨y0, y1, y2, y3⟩ := HR1.out.facts
  have f0 := HR1.out.blk.frozen 0
  have f1 := HR1.out.blk.frozen 1
  have f2 := HR1.out.blk.frozen 2
  have f3 := HR1.out.blk.frozen 3
  obtain ⟨x, hx⟩ : ∃ x, (moreP a).getD a = x := ⟨_, rfl⟩
  rw [hx]
  unfold hval
  have hlt1 : b < w1.heap.size := by have := HS1.out; have := HLT.out; omega
  have hlt2 : w.heap.size < w1.heap.size := HS1.out
  have hne1 : b ≠ w1.heap.size := by omega
  have hne2 : w.heap.size ≠ w1.heap.size := by omega
  have hne3 : b ≠ w.heap.size := by have := HLT.out; omega
  cases hm : (if a.l = [] then none else moreP a) with
  | some z =>
    have HV : Hid (g3 a = z) := by show _ = _; unfold g3; rw [hm]
    by_cases hl0 : a.l = []
    · rw [if_pos hl0] at hm; cases hm
    rw [if_neg hl0] at hm
    rw [hm] at hx
    obtain rfl : z = x := hx
    rw [hm]
    simp only [Option.isSome_some]
    have he2 : a.l.isEmpty = false := by simpa using hl0
    clear hl0
    go_wp2_with fail
    have HZ := hide (((((HR1.out.blk.set_ 0 (.int .i64 (z.n))).set_ 1 (.string ⟨z.l.toArray⟩)).set_ 2 (.int .i64 (z.num))).set_ 3 (.int .i64 (z.den))).alloc (.cells #[.int .i64 z.n, .string ⟨z.l.toArray⟩, .int .i64 z.num, .int .i64 z.den] 23))
    have HW := hide (((((HB1.out.setCell (p := ⟨w.heap.size, 0, none⟩) (Nat.le_refl _) (.int .i64 (z.n))).setCell (p := ⟨w.heap.size, 1, none⟩) (Nat.le_refl _) (.string ⟨z.l.toArray⟩)).setCell (p := ⟨w.heap.size, 2, none⟩) (Nat.le_refl _) (.int .i64 (z.num))).setCell (p := ⟨w.heap.size, 3, none⟩) (Nat.le_refl _) (.int .i64 (z.den))).alloc (by have := HS1.out; simp; omega) (.cells #[.int .i64 z.n, .string ⟨z.l.toArray⟩, .int .i64 z.num, .int .i64 z.den] 23))
    generalize ((((w1.setCell ⟨w.heap.size, 0, none⟩ (.int .i64 (z.n))).setCell ⟨w.heap.size, 1, none⟩ (.string ⟨z.l.toArray⟩)).setCell ⟨w.heap.size, 2, none⟩ (.int .i64 (z.num))).setCell ⟨w.heap.size, 3, none⟩ (.int .i64 (z.den))).alloc (.cells #[.int .i64 z.n, .string ⟨z.l.toArray⟩, .int .i64 z.num, .int .i64 z.den] 23) = w8 at *
    refine bodyPost_ret (results_cell1 rfl _ _ w.heap.size 23 _ _ rfl HZ.out Tryd.underlying23 rfl (by kernel_rfl)) rfl ?_
    refine ⟨?_, HW.out⟩
    rw [HV.out]; rfl
  | none =>
    have HG : Hid (g3 a = match nextL a.l with | some m => ⟨a.n, m, 1, 9⟩ | none => ⟨a.n + 1, [97], 1, 9⟩) := by
      show _ = _
      unfold g3
      rw [hm]
      rfl
    have HXa := hide (HBox.mk (HX1.out.blk.alloc (.cells #[.int .i64 x.n, .string ⟨x.l.toArray⟩, .int .i64 x.num, .int .i64 x.den] 23)))
    have HRa := hide (HBox.mk (h := ⟨0, [], 0, 0⟩) (HR1.out.blk.alloc (.cells #[.int .i64 x.n, .string ⟨x.l.toArray⟩, .int .i64 x.num, .int .i64 x.den] 23)))
    have HBa := hide (HB1.out.alloc HB1.out.size (.cells #[.int .i64 x.n, .string ⟨x.l.toArray⟩, .int .i64 x.num, .int .i64 x.den] 23))
    have HSa : Hid (w.heap.size < (w1.alloc (.cells #[.int .i64 x.n, .string ⟨x.l.toArray⟩, .int .i64 x.num, .int .i64 x.den] 23)).heap.size) := by have := HS1.out; show _ < _; simp; omega
    have hmq := hm
    clear hm
    by_cases hl0 : a.l = []
    · have he2 : a.l.isEmpty = true := by simpa using hl0
      clear hl0 hmq
      cases hmm : (moreP a).isSome
      · go_wp2_with fail
        refine (next_any a _ HL.out).mono ?_
        rintro e w2 ⟨rfl, hb⟩
        have HB2 := hide (HBa.out.trans (hb.mono HBa.out.size))
        have HX2 := hide (HXa.out.below hb (by have := HSa.out; have := HLT.out; omega))
        have HR2 := hide (HRa.out.below hb (by have := HSa.out; omega))
        have HS2 : Hid (w.heap.size < w2.heap.size) := by have := hb.size; have := HSa.out; simp only [Hid]; omega
        clear x0 x1 x2 x3 y0 y1 y2 y3 f0 f1 f2 f3 hlt1 hlt2 hne1 hne2 hne3
        clear hb HX1 HR1 HB1 HBa HXa HRa HSa 
        obtain ⟨x0, x1, x2, x3⟩ := HX2.out.facts
        obtain ⟨y0, y1, y2, y3⟩ := HR2.out.facts
        have f0 := HR2.out.blk.frozen 0
        have f1 := HR2.out.blk.frozen 1
        have f2 := HR2.out.blk.frozen 2
        have f3 := HR2.out.blk.frozen 3
        cases hm2 : nextL a.l with
        | none =>
          have HV : Hid (g3 a = ⟨a.n + 1, [97], 1, 9⟩) := by show _ = _; rw [HG.out, hm2]
          have hs : nextS a.l = [] := by unfold nextS; rw [hm2]; rfl
          rw [hs]
          simp only [Option.isSome_none]
          go_wp2_with fail
          have HZ := hide ((((HR2.out.blk.set_ 0 (.int .i64 (a.n + 1))).set_ 1 (.string ⟨#[97]⟩)).set_ 2 (.int .i64 (1))).set_ 3 (.int .i64 (9)))
          have HW := hide ((((HB2.out.setCell (p := ⟨w.heap.size, 0, none⟩) (Nat.le_refl _) (.int .i64 (a.n + 1))).setCell (p := ⟨w.heap.size, 1, none⟩) (Nat.le_refl _) (.string ⟨#[97]⟩)).setCell (p := ⟨w.heap.size, 2, none⟩) (Nat.le_refl _) (.int .i64 (1))).setCell (p := ⟨w.heap.size, 3, none⟩) (Nat.le_refl _) (.int .i64 (9)))
          generalize ((((w2.setCell ⟨w.heap.size, 0, none⟩ (.int .i64 (a.n + 1))).setCell ⟨w.heap.size, 1, none⟩ (.string ⟨#[97]⟩)).setCell ⟨w.heap.size, 2, none⟩ (.int .i64 (1))).setCell ⟨w.heap.size, 3, none⟩ (.int .i64 (9))) = w8 at *
          refine bodyPost_ret (results_cell1 rfl _ _ w.heap.size 23 _ _ rfl HZ.out Tryd.underlying23 rfl (by kernel_rfl)) rfl ?_
          refine ⟨?_, HW.out⟩
          rw [HV.out]; rfl
        | some m =>
          have HV : Hid (g3 a = ⟨a.n, m, 1, 9⟩) := by show _ = _; rw [HG.out, hm2]
          have hs : nextS a.l = m := by unfold nextS; rw [hm2]; rfl
          rw [hs]
          simp only [Option.isSome_some]
          go_wp2_with fail
          have HZ := hide ((((HR2.out.blk.set_ 0 (.int .i64 (a.n))).set_ 1 (.string (bs m))).set_ 2 (.int .i64 (1))).set_ 3 (.int .i64 (9)))
          have HW := hide ((((HB2.out.setCell (p := ⟨w.heap.size, 0, none⟩) (Nat.le_refl _) (.int .i64 (a.n))).setCell (p := ⟨w.heap.size, 1, none⟩) (Nat.le_refl _) (.string (bs m))).setCell (p := ⟨w.heap.size, 2, none⟩) (Nat.le_refl _) (.int .i64 (1))).setCell (p := ⟨w.heap.size, 3, none⟩) (Nat.le_refl _) (.int .i64 (9)))
          generalize ((((w2.setCell ⟨w.heap.size, 0, none⟩ (.int .i64 (a.n))).setCell ⟨w.heap.size, 1, none⟩ (.string (bs m))).setCell ⟨w.heap.size, 2, none⟩ (.int .i64 (1))).setCell ⟨w.heap.size, 3, none⟩ (.int .i64 (9))) = w8 at *
          refine bodyPost_ret (results_cell1 rfl _ _ w.heap.size 23 _ _ rfl HZ.out Tryd.underlying23 rfl (by kernel_rfl)) rfl ?_
          refine ⟨?_, HW.out⟩
          rw [HV.out]; rfl
      · go_wp2_with fail
        refine (next_any a _ HL.out).mono ?_
        rintro e w2 ⟨rfl, hb⟩
        have HB2 := hide (HBa.out.trans (hb.mono HBa.out.size))
        have HX2 := hide (HXa.out.below hb (by have := HSa.out; have := HLT.out; omega))
        have HR2 := hide (HRa.out.below hb (by have := HSa.out; omega))
        have HS2 : Hid (w.heap.size < w2.heap.size) := by have := hb.size; have := HSa.out; simp only [Hid]; omega
        clear x0 x1 x2 x3 y0 y1 y2 y3 f0 f1 f2 f3 hlt1 hlt2 hne1 hne2 hne3
        clear hb HX1 HR1 HB1 HBa HXa HRa HSa 
        obtain ⟨x0, x1, x2, x3⟩ := HX2.out.facts
        obtain ⟨y0, y1, y2, y3⟩ := HR2.out.facts
        have f0 := HR2.out.blk.frozen 0
        have f1 := HR2.out.blk.frozen 1
        have f2 := HR2.out.blk.frozen 2
        have f3 := HR2.out.blk.frozen 3
        cases hm2 : nextL a.l with
        | none =>
          have HV : Hid (g3 a = ⟨a.n + 1, [97], 1, 9⟩) := by show _ = _; rw [HG.out, hm2]
          have hs : nextS a.l = [] := by unfold nextS; rw [hm2]; rfl
          rw [hs]
          simp only [Option.isSome_none]
          go_wp2_with fail
          have HZ := hide ((((HR2.out.blk.set_ 0 (.int .i64 (a.n + 1))).set_ 1 (.string ⟨#[97]⟩)).set_ 2 (.int .i64 (1))).set_ 3 (.int .i64 (9)))
          have HW := hide ((((HB2.out.setCell (p := ⟨w.heap.size, 0, none⟩) (Nat.le_refl _) (.int .i64 (a.n + 1))).setCell (p := ⟨w.heap.size, 1, none⟩) (Nat.le_refl _) (.string ⟨#[97]⟩)).setCell (p := ⟨w.heap.size, 2, none⟩) (Nat.le_refl _) (.int .i64 (1))).setCell (p := ⟨w.heap.size, 3, none⟩) (Nat.le_refl _) (.int .i64 (9)))
          generalize ((((w2.setCell ⟨w.heap.size, 0, none⟩ (.int .i64 (a.n + 1))).setCell ⟨w.heap.size, 1, none⟩ (.string ⟨#[97]⟩)).setCell ⟨w.heap.size, 2, none⟩ (.int .i64 (1))).setCell ⟨w.heap.size, 3, none⟩ (.int .i64 (9))) = w8 at *
          refine bodyPost_ret (results_cell1 rfl _ _ w.heap.size 23 _ _ rfl HZ.out Tryd.underlying23 rfl (by kernel_rfl)) rfl ?_
          refine ⟨?_, HW.out⟩
          rw [HV.out]; rfl
        | some m =>
          have HV : Hid (g3 a = ⟨a.n, m, 1, 9⟩) := by show _ = _; rw [HG.out, hm2]
          have hs : nextS a.l = m := by unfold nextS; rw [hm2]; rfl
          rw [hs]
          simp only [Option.isSome_some]
          go_wp2_with fail
          have HZ := hide ((((HR2.out.blk.set_ 0 (.int .i64 (a.n))).set_ 1 (.string (bs m))).set_ 2 (.int .i64 (1))).set_ 3 (.int .i64 (9)))
          have HW := hide ((((HB2.out.setCell (p := ⟨w.heap.size, 0, none⟩) (Nat.le_refl _) (.int .i64 (a.n))).setCell (p := ⟨w.heap.size, 1, none⟩) (Nat.le_refl _) (.string (bs m))).setCell (p := ⟨w.heap.size, 2, none⟩) (Nat.le_refl _) (.int .i64 (1))).setCell (p := ⟨w.heap.size, 3, none⟩) (Nat.le_refl _) (.int .i64 (9)))
          generalize ((((w2.setCell ⟨w.heap.size, 0, none⟩ (.int .i64 (a.n))).setCell ⟨w.heap.size, 1, none⟩ (.string (bs m))).setCell ⟨w.heap.size, 2, none⟩ (.int .i64 (1))).setCell ⟨w.heap.size, 3, none⟩ (.int .i64 (9))) = w8 at *
          refine bodyPost_ret (results_cell1 rfl _ _ w.heap.size 23 _ _ rfl HZ.out Tryd.underlying23 rfl (by kernel_rfl)) rfl ?_
          refine ⟨?_, HW.out⟩
          rw [HV.out]; rfl
    · have he2 : a.l.isEmpty = false := by simpa using hl0
      have hmm : moreP a = none := by rw [if_neg hl0] at hmq; exact hmq
      rw [hmm]
      clear hl0 hmq
      simp only [Option.isSome_none]
      go_wp2_with fail
      refine (next_any a _ HL.out).mono ?_
      rintro e w2 ⟨rfl, hb⟩
      have HB2 := hide (HBa.out.trans (hb.mono HBa.out.size))
      have HX2 := hide (HXa.out.below hb (by have := HSa.out; have := HLT.out; omega))
      have HR2 := hide (HRa.out.below hb (by have := HSa.out; omega))
      have HS2 : Hid (w.heap.size < w2.heap.size) := by have := hb.size; have := HSa.out; simp only [Hid]; omega
      clear x0 x1 x2 x3 y0 y1 y2 y3 f0 f1 f2 f3 hlt1 hlt2 hne1 hne2 hne3
      clear hb HX1 HR1 HB1 HBa HXa HRa HSa 
      obtain ⟨x0, x1, x2, x3⟩ := HX2.out.facts
      obtain ⟨y0, y1, y2, y3⟩ := HR2.out.facts
      have f0 := HR2.out.blk.frozen 0
      have f1 := HR2.out.blk.frozen 1
      have f2 := HR2.out.blk.frozen 2
      have f3 := HR2.out.blk.frozen 3
      cases hm2 : nextL a.l with
      | none =>
        have HV : Hid (g3 a = ⟨a.n + 1, [97], 1, 9⟩) := by show _ = _; rw [HG.out, hm2]
        have hs : nextS a.l = [] := by unfold nextS; rw [hm2]; rfl
        rw [hs]
        simp only [Option.isSome_none]
        go_wp2_with fail
        have HZ := hide ((((HR2.out.blk.set_ 0 (.int .i64 (a.n + 1))).set_ 1 (.string ⟨#[97]⟩)).set_ 2 (.int .i64 (1))).set_ 3 (.int .i64 (9)))
        have HW := hide ((((HB2.out.setCell (p := ⟨w.heap.size, 0, none⟩) (Nat.le_refl _) (.int .i64 (a.n + 1))).setCell (p := ⟨w.heap.size, 1, none⟩) (Nat.le_refl _) (.string ⟨#[97]⟩)).setCell (p := ⟨w.heap.size, 2, none⟩) (Nat.le_refl _) (.int .i64 (1))).setCell (p := ⟨w.heap.size, 3, none⟩) (Nat.le_refl _) (.int .i64 (9)))
        generalize ((((w2.setCell ⟨w.heap.size, 0, none⟩ (.int .i64 (a.n + 1))).setCell ⟨w.heap.size, 1, none⟩ (.string ⟨#[97]⟩)).setCell ⟨w.heap.size, 2, none⟩ (.int .i64 (1))).setCell ⟨w.heap.size, 3, none⟩ (.int .i64 (9))) = w8 at *
        refine bodyPost_ret (results_cell1 rfl _ _ w.heap.size 23 _ _ rfl HZ.out Tryd.underlying23 rfl (by kernel_rfl)) rfl ?_
        refine ⟨?_, HW.out⟩
        rw [HV.out]; rfl
      | some m =>
        have HV : Hid (g3 a = ⟨a.n, m, 1, 9⟩) := by show _ = _; rw [HG.out, hm2]
        have hs : nextS a.l = m := by unfold nextS; rw [hm2]; rfl
        rw [hs]
        simp only [Option.isSome_some]
        go_wp2_with fail
        have HZ := hide ((((HR2.out.blk.set_ 0 (.int .i64 (a.n))).set_ 1 (.string (bs m))).set_ 2 (.int .i64 (1))).set_ 3 (.int .i64 (9)))
        have HW := hide ((((HB2.out.setCell (p := ⟨w.heap.size, 0, none⟩) (Nat.le_refl _) (.int .i64 (a.n))).setCell (p := ⟨w.heap.size, 1, none⟩) (Nat.le_refl _) (.string (bs m))).setCell (p := ⟨w.heap.size, 2, none⟩) (Nat.le_refl _) (.int .i64 (1))).setCell (p := ⟨w.heap.size, 3, none⟩) (Nat.le_refl _) (.int .i64 (9)))
        generalize ((((w2.setCell ⟨w.heap.size, 0, none⟩ (.int .i64 (a.n))).setCell ⟨w.heap.size, 1, none⟩ (.string (bs m))).setCell ⟨w.heap.size, 2, none⟩ (.int .i64 (1))).setCell ⟨w.heap.size, 3, none⟩ (.int .i64 (9))) = w8 at *
        refine bodyPost_ret (results_cell1 rfl _ _ w.heap.size 23 _ _ rfl HZ.out Tryd.underlying23 rfl (by kernel_rfl)) rfl ?_
        refine ⟨?_, HW.out⟩
        rw [HV.out]; rfl
end Go.Proofs.YtabphhclnboknaaDoor
